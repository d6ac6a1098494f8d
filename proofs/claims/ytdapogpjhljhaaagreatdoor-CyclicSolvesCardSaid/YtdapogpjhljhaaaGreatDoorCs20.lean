import Derived.Test.YtdapogpjhljhaaaGreatDoorCs19
import Derived.Tactics
import Derived.Tactics2
import Derived.Defers
import Derived.Recover
import Derived.Laws.Pointers
import Derived.WalkKit
import Derived.RowKit3
set_option maxHeartbeats 16000000
set_option maxRecDepth 100000
set_option linter.all false
set_option linter.defProp false
namespace Go.Proofs.YtdapogpjhljhaaaGreatDoor
open Go Go.Abs Tryz Go.RowKit
def qoM(n):(List.replicate n (qD zp)).flatten=(List.replicate n zp).flatMap qD:=by rw[qCQ,qEe]
def qk1{x:Nat}:∀l:List Nat,jj (x:Int) (l.map fun n:Nat=>(n:Int))=qqj x l
 |[]=>rfl
 |[_]=>rfl
 | a::b::r=>by
  simp only[qBz,jj,qqj,qk1 r];congr 2
  . rw[qCo,decide_eq_true_iff,decide_eq_true_iff];omega
  rw[qCo,decide_eq_true_iff,decide_eq_true_iff];omega
section
variable {c:Bc}{d:List Nd}{H:List Blk}{T:List (Option Nat)}
def qlV(h:BX c H d H){h1 h2 t x y}(b1:H[h1]?=some (.cells [.ptr c.B 0]))(b2:H[h2]?=some (.cells [.int .i64 (t:Int)]))(l:t<d.length)(f:x<d.length)(i:y<d.length):
 qh prog (XG c) 244 [.int .i64 x,.int .i64 y,.ptr h1 0,.ptr h2 0] ⟨H,T⟩ (NQ c d H fun b=>evD d b t&&evD d b x||!evD d b t&&evD d b y):=by
 refine qFF func244 ?_;simp[*];refine qFJ (qlU c h l f i) ?_;rintro v ⟨o,r⟩ ⟨a,y,rfl,m,j,e,g⟩;simp;exact⟨a,y,rfl,m,j,e,g⟩
def qbQ(h:BX c H d H){p lv}(hp:PB p lv c)(e)(he:qi1 p e)(h0:e.args≠[])
 (ih:∀a∈e.args,∀d H T,BX c H d H->qh prog (XG c) 186 [.ptr c.B 0,.agg (qo a)] ⟨H,T⟩ (WQ c d H fun b=>yi (ke p.vars (Zi p.vars lv b)) a)):
 qh prog (XG c) 186 [.ptr c.B 0,.agg (qo e)] ⟨H,T⟩ (WQ c d H fun b=>yi (ke p.vars (Zi p.vars lv b)) e):=by
 obtain⟨val,b8⟩:∃val:(Nat->Bool)->Ex->Int,∀b e,yi (ke p.vars (Zi p.vars lv b)) e=val b e:=⟨_,fun _ _=>rfl⟩;simp only[b8]at ih⊢;refine qFE ⟨false,qfY,[],[]⟩ func186 ?_;obtain⟨hn,h3,e8,h2,g3⟩:=he.self;have G:∀j,H.length<=j->j≠c.B:=fun j hj=>(h.at hj).1
 have g2:=qBA.2 h0;have g6:¬(e.args.length:Int)=0:=by omega
 rw[qd e];simp[qz,jK,za,show(e.args.length:Int)<=549755813888 by omega,h0,qoM];refine qFW e.args (fun dn ev σ=>ev 2=.ptr H.length 0/\ev 3=.ptr (H.length+1) 0/\ev 4=.ptr (H.length+2) 0/\ev 5=.ms (H.length+3) 0 e.args.length 16/\ev 14=.sl 4 (e.args.map qo) .none/\ev 15=.int .i64 e.args.length/\ev 16=.int .i64 dn.length /\
  ∃ (d':List Nd) (Ws:List (List Nat)),BX c H d' σ.H/\zi d d'/\Ws.length=e.args.length/\(∀w∈Ws,zh d' w)/\(∀b,(Ws.take dn.length).map (z7 d' b)=dn.map (val b)) /\
   σ.H[H.length]?=some (.cells [.ptr c.B 0])/\σ.H[H.length+1]?=some (.cells [.int .i64 e.op,.int .i64 e.n,.str e.name,.sl 4 (e.args.map qo) .none])/\σ.H[H.length+2]?=some (.cells (qD zp))/\σ.H[H.length+3]?=some (.cells (Ws.flatMap qD))) ?_ ?_ ?_
 . refine⟨by simp,by simp,by simp,by simp,by simp,by simp,by simp,d,List.replicate e.args.length zp,?_,qGc d,by simp,fun w U=>?_,fun b=>by simp,?_,?_,?_,?_⟩
   . exact h.app _
   . rw[qDc]at U;rw[U.2];exact wy h.ok
   . exact lk0
   . exact lk1
   . exact lk2
   . exact lk3
 . rintro dn a rest ev ⟨H1,T1⟩ R hR hd D g0 ⟨Q,e3,e4,O,c7,a3,a2,i,Ws,b5,hg,a0,Y,hv,Z,bE,bZ,I⟩;dsimp only at b5 Z bE bZ I;have e0:=qBl D;have e7:=wr (n:=(dn.length:Int)+1);have c9:(dn.length:Int)<e.args.length:=(by omega);have b1:=(qBk.1 I).1;have g1:=b5.self.app [.cells (qo a)];have d5:=fun T=>ih a e0 i _ T (b5.app [.cells (qo a)]).self
   have b6:=Wv (Ws:=Ws) fun w U=>(Y w U).1
   rw[a0]at b6;have d8:∀{V:List Nat},V.length=16->zC (Ws.flatMap qD) (dn.length*16) (qD V)=(Ws.set dn.length V).flatMap qD:=fun {V} s=>KU s (fun w U=>(Y w U).1) (by omega)
   rw[qd a]at d5;simp[Q,O,c7,a3,a2,c9,D,qd a,qa Z];refine qFJ (d5 T1) ?_;rintro v ⟨J,T2⟩ ⟨K,V,rfl,m,l,s,z⟩;dsimp only at z;have C:=s.1;have M:=(b5.app [.cells (qo a)]).call (by rwa[qd a]);have up:∀{k:Nat} {x:Blk},H.length<=k->H1[k]?=some x->J[k]?=some x:=fun {k x} hl hq=>m.loc (qa hq _) (G k hl)
   have cW:=up (by omega) I;have d6:=(qBk.1 cW).1;simp[a2,c9,cW,b6,show dn.length*16+16<=e.args.length*16 by omega,C,d8 C,e7];refine hR _ _ ⟨by simp[Q],by simp[e3],by simp[e4],by simp[O],by simp[c7],by simp[a3],by simp,K,Ws.set dn.length V,M.set (by omega) _,hg.trans l,by simp[a0],fun w U=>?_,fun b=>?_,?_,?_,?_,qBo d6⟩
   . rcases qDm U with U|rfl
     . exact(Y w U).grown l
     . exact s
   . have h1:(Ws.set dn.length V).take (dn++[a]).length=Ws.take dn.length++[V]:=by
      rw[qBp,qBR,qBQ,qBo (by omega),List.take_set_of_le (qBs _)];rfl
     rw[h1,qCl,qCl,<- hv b];congr 1
     . apply qCy;intro w U;exact qh0 b5.ok l (Y w (qB6 U)) b
     simp only[qBz,qBS];rw[z b]
   . rw[qBn (by omega)];exact up (by omega) Z
   . rw[qBn (by omega)];exact up (by omega) bE
   rw[qBn (by omega)];exact up (by omega) bZ
 rintro ev ⟨H1,T1⟩ ⟨Q,e3,e4,O,c7,a3,a2,i,Ws,D,hg,a0,Y,hv,Z,bE,bZ,I⟩;dsimp only at D Z bE bZ I;have f3:∀b,Ws.map (z7 i b)=e.args.map (val b):=fun b=>by
  have:=hv b
  rwa[qBr (by omega)]at this
 have b6:=Wv (fun w U=>(Y w U).1);have f6:∀b,val b e=opW e.op (Ws.map (z7 i b)):=fun b=>by
  rw[<- b8,yM];unfold wH;rw[f3 b];have:(List.map (yi (ke p.vars (Zi p.vars lv b))) e.args)=e.args.map (val b):=qCy fun a _=>b8 b a
  rw[this];have h1:e.op≠1/\e.op≠2:=by
   obtain⟨o1,o2,o3,o4,o5,o6,o7,o8⟩:=jm hn;unfold qk at o5;constructor
   . intro h;rw[h]at o5;simp[zE]at o5;exact h0 o5
   intro h;rw[h]at o5;simp[zE]at o5;exact h0 o5
  rw[if_neg h1.1,if_neg h1.2,if_neg h3,if_neg e8]
 have fin:∀{H4:List Blk} {d4:List Nd} {V:List Nat} {τ:St},τ.H=H4.set (H.length+2) (.cells (qD V))->BX c H d4 H4->zi i d4->zh d4 V->(∀b,z7 d4 b V=opW e.op (Ws.map (z7 i b)))->WQ c d H (fun b=>val b e) (.agg (qD V)) τ:=fun {H4 d4 V τ} hτ c8 c4 s b7=>by
  refine⟨d4,_,rfl,?_,hg.trans c4,s,fun b=>by rw[b7];exact(f6 b).symm⟩;rw[hτ];exact c8.set (by omega) _
 have g4:=(qBk.1 bZ).1;obtain⟨o1,o2,o3,o4,o5,o6,o7,o8⟩:=jm hn;have L:((e.op=4\/e.op=5\/e.op=6\/e.op=25)/\e.args.length=1)\/(e.op=22/\e.args.length=3)\/(e.op=23/\3<=e.args.length)\/(7<=e.op/\e.op<=21/\e.args.length=2):=by
  unfold qk at o5;split at o5
  . simp only[decide_eq_true_eq]at o5;omega
  simp only[decide_eq_true_eq]at o5;unfold zE at o5
  repeat' split at o5
  all_goals omega
 have a9:(qD zp).length=16:=rfl;have ht:=D.ok.two;rcases L with⟨L,h1⟩|⟨L,h1⟩|⟨L,h1⟩|⟨d9,f8,h1⟩
 . -- one operand
   rw[h1]at a0 O;obtain⟨w0,rfl⟩:=List.length_eq_one_iff.1 a0;have X:=Y w0 (by simp);have o:=X.1;simp only[qBJ,qD1,qB4]at I;rcases L with L|L|L|L
   . simp[e3,a3,a2,bE,L,h1];rw[qG rfl];simp[qX,Q,O,Z,I,o,qs o];have key:=QJ D.self X (T:=T1);refine⟨qFJ key ?_,qFJ key ?_⟩
     all_goals
      rintro v ⟨J,T2⟩ ⟨K,t,rfl,m,l,a5,z⟩;dsimp only at z;have M:=D.call m;have cB:=m.loc Z (G _ (by omega));dsimp only at cB;simp[qX,Q,cB];refine qFJ (Zo c M.self a5) ?_;rintro v ⟨H3,T3⟩ ⟨d3,u,rfl,a4,a6,hu,a8⟩;dsimp only at a8;have a1:=M.call a4;have f:=a4.loc (m.loc bZ (G _ (by omega))) (G _ (by omega));have E:=(qBk.1 f).1;dsimp only at f E;simp[qX];refine qFG (js u) ?_ rfl;have b2:(qD (u::List.replicate 15 0)).take 16=qD (u::List.replicate 15 0):=qs rfl;have b4:zC (qD zp) 0 (qD (u::List.replicate 15 0))=qD (u::List.replicate 15 0):=zy rfl rfl;have kw:=fin (H4:=H3) (d4:=d3) (V:=u::List.replicate 15 0) (τ:=⟨H3.set (H.length+2) (.cells (qD (u::List.replicate 15 0))),T3⟩) rfl a1 (l.trans a6) (qcF a1.ok hu) (fun b=>by
       rw[qaR a1.ok,a8,z,Qc,L];simp[opW,unW,z7])
      simp only[List.reduceReplicate]at kw b2 b4;simp[-getElem?_pos,qX,e4,f,za,b4,E,b2];exact kw
   . simp[e3,a3,a2,bE,L,h1];rw[qG rfl];simp[qX,Q,O,Z,I,o,qs o];refine qFJ (Js D.self X) ?_;rintro v ⟨J,T2⟩ ⟨K,V,rfl,m,l,s,z⟩;dsimp only at z;have C:=s.1;have f:=m.loc bZ (G _ (by omega));have E:=(qBk.1 f).1;dsimp only at f E;simp[-getElem?_pos,qX,e4,f,za,C,zy C a9,E,qs C];refine fin rfl (D.call m) l s fun b=>?_
     unfold z7;rw[zB (z b),qx8,L];rfl
   . have c3:=yA 0 (by omega);rw[qgR]at c3;simp only[qDK]at c3;simp[e3,a3,a2,bE,L,h1];rw[qG rfl];simp[qX,Q,Z];refine qFG c3 ?_ rfl;simp[qX,O,I,o,qs o];refine qFJ (Jp D.self (wy D.ok) X) ?_;rintro v ⟨J,T2⟩ ⟨K,V,rfl,m,l,s,z⟩;dsimp only at z;have C:=s.1;have f:=m.loc bZ (G _ (by omega));have E:=(qBk.1 f).1;dsimp only at f E;simp[-getElem?_pos,qX,e4,f,za,C,zy C a9,E,qs C];refine fin rfl (D.call m) l s fun b=>?_
     rw[qeA (z b),<- wB,quj,kZ fun k _=>kK D.ok b k,L];simp[opW,unW,z7]
   simp[e3,a3,a2,bE,L,h1];rw[qG rfl];simp[qX,Q,O,Z,I,o,qs o];refine qFJ (qsb D.self X) ?_;rintro v ⟨J,T2⟩ ⟨K,V,rfl,m,l,s,z⟩;dsimp only at z;have C:=s.1;have f:=m.loc bZ (G _ (by omega));have E:=(qBk.1 f).1;dsimp only at f E;simp[-getElem?_pos,qX,e4,f,za,C,zy C a9,E,qs C];refine fin rfl (D.call m) l s fun b=>?_
   have hr:=qhZ i b w0;have d0:=QF hr.1 hr.2;unfold z7 at d0⊢;rw[z b,<- VN _ 16 (by omega),L];simp[opW,unW,d0]
 . -- a choice
   rw[h1]at a0 O;obtain⟨w0,P,w2,rfl⟩:∃w w' f7,Ws=[w,w',f7]:=by
    match Ws,a0 with
    |[a,b,c],_=>exact⟨a,b,c,rfl⟩
   have X:=Y w0 (by simp);have o:=X.1;have b0:=Y P (by simp);have a7:=b0.1;have c5:=Y w2 (by simp);have b9:=c5.1;simp only[qBJ,qD1,qB4]at I;have c0:(qD w0++(qD P++qD w2)).take 16=qD w0:=(by rw[qCv (by simp[o]),qs o]);have c1:((qD w0++(qD P++qD w2)).drop 16).take 16=qD P:=by
    rw[qDd,qBZ (by simp[o]),jJ,o,qCh,qCG,qBL,qCv (by simp[a7]),qs a7]
   have c2:(qD w0++(qD P++qD w2)).drop 32=qD w2:=by
    rw[qDd,qBZ (by simp[o]),jJ,o,qBL,qDd,qBZ (by simp[a7]),jJ,a7];rfl
   have cl:(qD w0++(qD P++qD w2)).length=48:=(by simp[o,a7,b9]);generalize qD w0++(qD P++qD w2)=F at *;simp[e3,a3,a2,bE,L,h1];rw[qG rfl];simp[qX,Q,O,Z,I,cl,c0]
   -- what is behind the truth
   have rest:∀{J:List Blk} {T2:List (Option Nat)} {K:List Nd} {t N:Nat},BX c H K J->zi i K->t<K.length->(∀b,evD K b t=Jv (qv i b w0) 16)->(∀{k:Nat} {x:Blk},H.length<=k->H1[k]?=some x->J[k]?=some x)->J[N]?=some (.cells [.int .i64 (t:Int)])->N≠c.B ->
    qh prog (XG c) 243 [.agg (qD P),.agg (qD w2),.fn 244 [] [.ptr H.length 0,.ptr N 0]] ⟨J,T2⟩ (BQ c K J fun b k=>if Jv (qv i b w0) 16=true then qv i b P k else qv i b w2 k):=by
    intro J T2 K t N M l a5 d7 up bN hN;have cB:=up (qBs _) Z;have:=YW M.self (b0.grown l) (c5.grown l) (T:=T2) (g:=244) (first:=[]) (cap:=[.ptr H.length 0,.ptr N 0]) (F:=fun b p q=>Jv (qv i b w0) 16&&p||!Jv (qv i b w0) 16&&q) (fun d3 H3 T3 x y a1 a6 f0 e6=>by
     have key:=qlV a1.self (h1:=H.length) (h2:=N) (t:=t) (x:=x) (y:=y) (T:=T3) (a1.loc cB (G _ (qBs _))) (a1.loc bN hN) (qBD a5 a6.len) f0 e6;have e:(fun b=>evD d3 b t&&evD d3 b x||!evD d3 b t&&evD d3 b y)=fun b=>Jv (qv i b w0) 16&&evD d3 b x||!Jv (qv i b w0) 16&&evD d3 b y:=by
      funext b;rw[a6.ev M.ok b a5,d7]
     rw[e]at key;exact key)
    refine this.imp fun v σ ⟨d',W,e1,Q,e3,e4,O⟩=>⟨d',W,e1,Q,e3,e4,fun b k G=>?_⟩
    rw[O b k G];dsimp only;rw[zN D.ok l b0 b G,zN D.ok l c5 b G];cases Jv (qv i b w0) 16<;>simp
   have w9:∀{H4:List Blk} {T4:List (Option Nat)} {K d4:List Nd} {V:List Nat},BX c H d4 H4->zi i K->zi K d4->zh d4 V->(∀b k,k<16->qv d4 b V k=if Jv (qv i b w0) 16=true then qv i b P k else qv i b w2 k)->WQ c d H (fun b=>val b e) (.agg (qD V)) ⟨H4.set (H.length+2) (.cells (qD V)),T4⟩:=fun {H4 T4 K d4 V} c8 l c4 s b7=>by
    refine fin rfl c8 (l.trans c4) s fun b=>?_
    unfold z7;rw[zB (b7 b),L,Qc];by_cases h:(zA (qv i b w0) 16:Int)=0
    . have h':zA (qv i b w0) 16=0:=(by omega);simp[opW,h']
    have h':¬zA (qv i b w0) 16=0:=(by omega);simp[opW,h']
   refine⟨qFJ (QJ D.self X) ?_,qFJ (QJ (D.app _).self X) ?_⟩
   . rintro v ⟨J,T2⟩ ⟨K,t,rfl,m,l,a5,z⟩;dsimp only at z;have M:=D.call m;have up:∀{k:Nat} {x:Blk},H.length<=k->H1[k]?=some x->J[k]?=some x:=fun {k x} hl hq=>m.loc hq (G k hl)
     have cW:=up (by omega) I;simp[qX];rw[qG rfl];simp[qX,Q,O,qa cW,cl,c1,c2,qs b9];refine qFJ (rest (M.app [.cells [.int .i64 (t:Int)]]) l a5 z (fun hl hq=>qa (up hl hq) _) lk0 (G _ (M.kp.1))) ?_;rintro v ⟨H3,T3⟩ ⟨d3,V,rfl,a4,a6,s,a8⟩;have a1:=(M.app [.cells [.int .i64 (t:Int)]]).call a4;have C:=s.1;have f:=a4.loc (qa (up (by omega) bZ) _) (G _ (by omega));have E:=(qBk.1 f).1;dsimp only at f E;simp[-getElem?_pos,qX,e4,f,za,C,zy C a9,E,qs C];exact w9 a1 l a6 s a8
   rintro v ⟨J,T2⟩ ⟨K,t,rfl,m,l,a5,z⟩;dsimp only at z;have M:=(D.app _).call m;have up:∀{k:Nat} {x:Blk},H.length<=k->H1[k]?=some x->J[k]?=some x:=fun {k x} hl hq=>m.loc (qa hq _) (G k hl)
   have b1:=D.kp.1;have bN:=m.loc (lk0 (H:=H1) (p:=Blk.cells [.int .i64 0]) (t:=[])) (G _ b1);have f2:=(qBk.1 bN).1;have g5:=(qBk.1 I).1;have cW:=up (by omega) I;have c6:∀{k:Nat} {x:Blk},H.length<=k->H1[k]?=some x->(J.set H1.length (.cells [.int .i64 (t:Int)]))[k]?=some x:=fun {k x} hl hq=>by
    have:=(qBk.1 hq).1;rw[qBn (by omega)];exact up hl hq
   have dW:=c6 (by omega) I;simp[qX,bN];rw[qG rfl];simp[qX,Q,O,dW,cl,c1,c2,qs b9];refine qFJ (rest (M.set b1 _) l a5 z c6 (qBo f2) (G _ b1)) ?_;rintro v ⟨H3,T3⟩ ⟨d3,V,rfl,a4,a6,s,a8⟩;have a1:=(M.set b1 _).call a4;have C:=s.1;have f:=a4.loc (c6 (by omega) bZ) (G _ (by omega));have E:=(qBk.1 f).1;dsimp only at f E;simp[-getElem?_pos,qX,e4,f,za,C,zy C a9,E,qs C];exact w9 a1 l a6 s a8
 . -- ranges
   obtain⟨w0,S,rfl⟩:∃w r,Ws=w::r:=by
    match Ws,a0 with
    |a::r,_=>exact⟨a,r,rfl⟩
    |[],h=>simp at h;omega
   have X:=Y w0 (by simp);have o:=X.1;have f4:S.length+1=e.args.length:=(by simpa using a0);rw[<- f4]at O;have f5:zm (.ms (H.length+3) 0 (S.length+1) 16) (some (.int .i64 1)) none none=some (.ms (H.length+3) 16 S.length 16):=by
    have h2:(1:Int)<=((S.length+1:Nat):Int):=(by omega);show(if(0:Int)<=1/\(1:Int)<=((S.length+1:Nat):Int)/\((S.length+1:Nat):Int)<=((S.length+1:Nat):Int)/\((1:Int)=0\/(1:Int)<((S.length+1:Nat):Int)) then _ else _)=_;rw[if_pos ⟨by omega,h2,qE8 _,.inr (by omega)⟩];simp
   have e9:(0:Int)<(S.length:Int)+1:=(by omega);have f1:=qkZ D.self X (A:=H.length+3) (V:=w0) (Ws:=S) o (fun w U=>Y w (by simp[U])) (by simpa using I) (G _ (by omega)) (by omega) (T:=T1);simp only[qBJ]at I b6;have c0:(qD w0++S.flatMap qD).take 16=qD w0:=(by rw[qCv (by simp[o]),qs o]);have cl:16<=(qD w0++S.flatMap qD).length:=(by simp[o]);generalize qD w0++S.flatMap qD=F at *;simp[e3,a3,a2,bE,L];rw[qG rfl];simp[qX,Q,O,Z,I,cl,c0,f5,e9];refine qFJ f1 ?_;rintro v ⟨J,T2⟩ ⟨K,u,rfl,m,l,hu,z⟩;dsimp only at z;have M:=D.call m;have f:=m.loc bZ (G _ (by omega));have E:=(qBk.1 f).1;dsimp only at f E;simp[qX];refine qFG (js u) ?_ rfl;have b2:(qD (u::List.replicate 15 0)).take 16=qD (u::List.replicate 15 0):=qs rfl;have b4:zC (qD zp) 0 (qD (u::List.replicate 15 0))=qD (u::List.replicate 15 0):=zy rfl rfl;have kw:=fin (H4:=J) (d4:=K) (V:=u::List.replicate 15 0) (τ:=⟨J.set (H.length+2) (.cells (qD (u::List.replicate 15 0))),T2⟩) rfl M l (qcF M.ok hu) (fun b=>by
    rw[qaR M.ok,z,L];have:(S.map (z7 i b))=(S.map fun w=>zA (qv i b w) 16).map fun n:Nat=>(n:Int):=by
     rw[qCN];rfl
    simp only[opW,qBz,List.tail_cons,this];have f9:=qk1 (x:=zA (qv i b w0) 16) (S.map fun w=>zA (qv i b w) 16);show _=b2i (jj (z7 i b w0) _);rw[<- f9];rfl)
   simp only[List.reduceReplicate]at kw b2 b4;simp[-getElem?_pos,qX,e4,f,za,b4,E,b2];exact kw
 -- two operands
 rw[h1]at a0 O;obtain⟨w0,P,rfl⟩:∃w w',Ws=[w,w']:=by
  match Ws,a0 with
  |[a,b],_=>exact⟨a,b,rfl⟩
 have X:=Y w0 (by simp);have o:=X.1;have b0:=Y P (by simp);have a7:=b0.1;have c0:(qD w0++qD P).take 16=qD w0:=by rw[qCv (by simp[o]),qs o]
 have c1:(qD w0++qD P).drop 16=qD P:=by rw[qDd,qBZ (by simp[o]),jJ,o];rfl
 have cl:(qD w0++qD P).length=32:=by simp[o,a7]
 simp only[qBJ,qD1,qB4]at I;generalize qD w0++qD P=F at *;have n23:¬e.op=23:=by omega
 have n22:¬e.op=22:=by omega
 simp[-getElem?_pos,Q,e3,a3,a2,bE,h1,show ¬e.op=1 by omega,show ¬e.op=2 by omega,show ¬e.op=4 by omega,show ¬e.op=5 by omega,show ¬e.op=6 by omega,show ¬e.op=25 by omega,n23,n22];rw[qG rfl];simp[-getElem?_pos,qX,Q,e3,O,Z,bE,I,cl,c0,c1,qs a7];refine qFJ (ql2 D.self X b0 d9 f8) ?_;rintro v ⟨J,T2⟩ ⟨K,V,rfl,m,l,s,z⟩;dsimp only at z;have C:=s.1;have f:=m.loc bZ (G _ (by omega));have E:=(qBk.1 f).1;dsimp only at f E;simp[-getElem?_pos,qX,e4,f,za,C,zy C a9,E,qs C];refine fin rfl (D.call m) l s fun b=>?_
 rw[z b];simp[opW,n22,n23]
def qqX{p lv}(i:PB p lv c):∀(e),qi1 p e->∀d H T,BX c H d H->qh prog (XG c) 186 [.ptr c.B 0,.agg (qo e)] ⟨H,T⟩ (WQ c d H fun b=>yi (ke p.vars (Zi p.vars lv b)) e):=by
 refine qF4 fun e ih f d H T h=>?_
 by_cases h0:e.args=[]
 . exact qbR h i e f h0
 exact qbQ h i e f h0 fun a g d H T h=>ih a g (f.arg g) d H T h
end
def KY(n):Pure prog GG 223 [.int .i64 n] (.agg (qo (z8 n))):=by
 refine qFD func223 ?_;simp[z8,qd,qV,zt,qx]
def quS{L:List Rg}{r:Rg}{n}:((L++[r]).flatMap wj).set (L.length*2+1) (.int .i64 n)=(L++[(r.1,n)]).flatMap wj:=by
 rw[List.flatMap_append,List.flatMap_append,qCd _ _ (by rw[zZ (sz:=2) (fun x=>by simp)];omega),zZ (sz:=2) (fun x=>by simp)];have:L.length*2+1-L.length*2=1:=by omega
 rw[this];simp
def qpz(out:List Rg)(n):(kV out n).length<=out.length+1:=by
 unfold kV
 cases h:out.getLast? with
 |none=>simp
 | some r=>
  simp only;split<;>simp
def qdg:∀(l:List Int) (out:List Rg),(l.foldl kV out).length<=out.length+l.length
 |[],out=>by simp
 | n::l,out=>by
  rw[qB2];have:=qdg l (kV out n);have:=qpz out n;simp;omega
def qj9(l)(hl:l.length<=1000)(hn:∀n∈l,0<=n/\n<=65535):Pure prog GG 179 [.sl 1 (l.map qf) .none] (.sl 2 ((jr l).map wj) .none):=by
 refine qFC ⟨true,[],[],[]⟩ true func179 ?_;have I:jr l=l.foldl kV []:=rfl;generalize jr l=O at I;simp;refine qFW l (fun d ev σ=>ev 7=.sl 1 (l.map qf) .none/\ev 8=.int .i64 l.length/\ev 9=.int .i64 d.length/\∃H b,σ=⟨H,[]⟩/\ja b 2 wj H (ev 3) (d.foldl kV [])) ?_ ?_ ?_
 . exact⟨by simp,by simp,by simp,[],0,by simp,.inl ⟨rfl,by simp⟩⟩
 . rintro d n rest ev σ R hR hd t w ⟨f,c,j,H,b,rfl,e⟩;have z:=wr (n:=(d.length:Int)+1);have a5:(d.foldl kV []).length<=d.length:=(by have:=qdg d [];simpa using this);have a6:=hn n (qBl t);have C:=wr (n:=n-1);have S:(d++[n]).foldl kV []=kV (d.foldl kV []) n:=(by simp);generalize d.foldl kV []=L at *;have A:∀(g:Env) H' b',g 7=.sl 1 (l.map qf) .none->g 8=.int .i64 l.length->g 9=.int .i64 (d.length+1:Nat)->ja b' 2 wj H' (g 3) (kV L n)->R g ⟨H',[]⟩:=fun g H' b' V W U X=>
    hR _ _ ⟨V,W,by simpa using U,H',b',rfl,by rw[S];exact X⟩
   generalize u:ev 3=v3 at *
   cases hg:L.getLast? with
   | none=>
    have B:=qDI.1 hg;have i:kV L n=[(n,n)]:=(by subst B;rfl);obtain⟨v',b',H2,s,y,_,_,_⟩:=e.appendK (P:=prog) (G:=qW GG) (o:=⟨true,[],[],[]⟩) (T:=[]) (m:=[(n,n)]) (tok:=.tight) qAh rfl qAg rfl (by omega) rfl (by decide) (fun x=>by simp) (by simp;omega);subst B;rcases e with⟨_,rfl⟩|⟨h,_⟩
    case inr=>exact absurd rfl h
    simp at s;simp[-getElem?_pos,u,s,f,c,j,w,t,z,show IntKind.i64.wrap (-1) = -1 by decide,qV,zt,qx,qe,qp];exact A _ _ _ (by simp[f]) (by simp[c]) (by simp) (by rw[i];simpa using y)
   | some r=>
    obtain⟨a,rfl⟩:=qDJ.1 hg;have Y:a++[r]≠[]:=(by simp);obtain⟨Q,hb⟩:=e.at Y;have Z:(a++[r]).length=a.length+1:=(by simp);have E:=wr (n:=(a.length:Int));have M:(a.flatMap wj).length=a.length*2:=zZ (sz:=2) (fun x=>by simp) a;have J:(a++[r]).flatMap wj=a.flatMap wj++[.int .i64 r.1,.int .i64 r.2]:=(by rw[List.flatMap_append];simp);have F:((a++[r]).flatMap wj).drop (a.length*2+1)=[.int .i64 r.2]:=by
     rw[J,qDd,M,qBZ (by omega),show a.length*2+1-a.length*2=1 by omega];rfl
    have D:((a++[r]).flatMap wj).length=a.length*2+2:=(by rw[J,qBp,M];rfl);have K:=quS (L:=a) (r:=r) (n:=n);have a0:=(qBk.1 hb).1;rw[Z]at Q;subst Q;have N:(a.length:Int)<a.length+1:=(by omega);by_cases v:r.2=n-1
    . have i:kV (a++[r]) n=a++[(r.1,n)]:=(by unfold kV;rw[hg];simp[v]);generalize (a++[r]).flatMap wj=fl at *;simp[-getElem?_pos,u,hb,N,F,D,K,E,C,v,z,f,c,j,w,t];exact A _ _ b (by simp[f]) (by simp[c]) (by simp) (by
       rw[i];exact .inr ⟨by simp,by simp[u],by rw[qBo a0];simp⟩)
    have i:kV (a++[r]) n=a++[r]++[(n,n)]:=(by unfold kV;rw[hg];simp[v]);obtain⟨v',b',H2,s,y,_,_,_⟩:=e.appendK (P:=prog) (G:=qW GG) (o:=⟨true,[],[],[]⟩) (T:=[]) (m:=[(n,n)]) (tok:=.tight) qAh rfl qAg rfl (by omega) rfl (by decide) (fun x=>by simp) (by simp at a5⊢;omega);simp at s;generalize (a++[r]).flatMap wj=fl at *;simp[-getElem?_pos,u,hb,N,F,D,K,E,C,v,z,f,c,j,w,t,s,qV,zt,qx,qe,qp];exact A _ _ b' (by simp[f]) (by simp[c]) (by simp) (by rw[i];simpa using y)
 rintro ev σ ⟨f,c,j,H,b,rfl,e⟩;rw[<- I]at e;simp[c,j];exact⟨e.frzNo (fun x=>by simp) (fun x=>by simp) (fun x=>by simp) 7,e.frz (fun x=>by simp) (fun x=>by simp) (fun x=>by simp) 7⟩
def qnB(s:Str):List AV:=[.int .i64 2,.int .i64 0,.str s,.sl 0 [] .nil]
def kv(d:List Rg):List Ex:=d.flatMap fun r=>[z8 r.1,z8 r.2]
def qdD(s:Str)(d:List Rg):AV:=match d with
 |[]=>.sl 4 [qnB s] .tight
 |r::q=>.sl 4 (qnB s::(kv (r::q)).map qo) (.chain 0 (2*(q.length+1)))
def qmf(d:List Rg):List (Option Nat):=match d with
 |[]=>[]
 |_::q=>[some (2*(q.length+1))]
def qpu(s)(d:List Rg)(r:Rg)(b:d.length<=1000)(H):qm (Dof prog) ⟨H,qmf d⟩ 23 (qdD s d) (.sl 4 [qo (z8 r.1),qo (z8 r.2)] .tight)=some (qdD s (d++[r]),⟨H,qmf (d++[r])⟩):=by
 cases d with
 |nil=>simp[qm,qdD,qmf,qR,kv]
 | cons a q=>
  have h2:((kv (a::q)).map qo).length+1+2<=549755813888:=by rw[show((kv (a::q)).map qo).length=2*(q.length+1) by rw[qBT,kv,qaU];simp];simp at b;omega
  show qm (Dof prog) ⟨H,[some (2*(q.length+1))]⟩ 23 (.sl 4 (qnB s::(kv (a::q)).map qo) (.chain 0 (2*(q.length+1)))) _=some (.sl 4 (qnB s::(kv (a::q++[r])).map qo) (.chain 0 (2*((q++[r]).length+1))),⟨H,[some (2*((q++[r]).length+1))]⟩);rw[show kv (a::q++[r])=kv (a::q)++[z8 r.1,z8 r.2] by simp[kv],<- show 2*(q.length+1)+2=2*((q++[r]).length+1) by simp;omega];generalize (kv (a::q))=N at h2⊢;simp at h2;simp[qm,qR,h2]
def WV:∀L:List (List AV),ym L L
 |[]=>by simp
 |a::r=>by simp
def qc2(s:Str)(l:List Rg)(A:l.length<=1000):Pure prog GG 224 [.str s,.sl 2 (l.map wj) .none] (.agg (qo (kA s l))):=by
 refine qFD func224 ?_;simp[qV,zt,qx,qe,qp];refine qFK l (fun d ev σ=>ev 4=.ptr 0 0/\ev 5=qdD s d/\ev 11=.sl 2 (l.map wj) .none/\ev 12=.int .i64 l.length/\ev 13=.int .i64 d.length/\∃t,σ=⟨.cells [.int .i64 0,.int .i64 0,.str [],.sl 0 [] .nil]::t,qmf d⟩) ?_ ?_ ?_
 . exact⟨by simp,by simp[qdD,qnB],by simp,by simp,by simp,[],by simp[qmf]⟩
 . rintro d r rest ev σ hd b o ⟨v,c,e,f,h,t,rfl⟩;have z:=wr (n:=(d.length:Int)+1);have u:=fun H=>qpu s d r (by omega) H
   generalize qdD s d=x at *;generalize qdD s (d++[r])=B at *;have j:∀n,qo (z8 n)=[.int .i64 1,.int .i64 n,.str [],.sl 4 [] .none]:=fun n=>by simp[qd,z8]
   simp only[j]at u;have h1:=KY r.1;have h2:=KY r.2;simp only[j]at h1 h2;simp[-getElem?_pos,c,e,f,h,o,b];refine qFG h1 ?_ rfl;simp;refine qFG h2 ?_ rfl;simp[*,qe,qp]
 rintro ev σ ⟨v,c,e,f,h,t,rfl⟩;obtain⟨R,tok,w,i,m⟩:∃R tok,qdD s l=.sl 4 R tok/\ym R ((wO s::kv l).map qo)/\qM R=true:=by
  have b:zl (qnB s) (qo (wO s)):=by rw[qd];simp[qnB,wO,zl,Leq]
  have g:(qo (wO s)).all AV.atom=true:=by rw[qd];simp[AV.atom]
  cases l with
  |nil=>exact⟨_,_,rfl,by simp only[kv,ym,qBz,qD1,qBS];exact⟨.inr ⟨b,g⟩,trivial⟩,by simp[qnB]⟩
  | cons a q=>
   refine⟨_,_,rfl,by simp only[ym,qBz];exact⟨.inr ⟨b,g⟩,WV _⟩,?_⟩;have:=qvf (kv (a::q));simp only[qM,qBq];exact⟨by simp[qnB],this⟩
 rw[w]at c;rw[show qo (kA s l)=[.int .i64 23,.int .i64 0,.str [],.sl 4 ((wO s::kv l).map qo) .none] by rw[qd];rfl];generalize (wO s::kv l).map qo=y at i;simp[*,qV,zt,qx];cases tok<;>exact⟨by simpa using m,by simp[Leq,i]⟩
def qnS:List (Nat×Sch×List Nat):=[(9,.step 0 [8,7,6] (.step 1 [8,7,6,5] (.step 2 [8,7,6,5,4] (.step 3 [8,7,6,5,4] (.step 4 [8,7,6,5] (.step 5 [8,7,6] (.step 6 [8,7] (.step 7 [8] (.step 8 [] (.done))))))))),[])]
def qvn(k:Nat):vR (.int .i64 16) (.int .i64 (k:Int))=some (.int .i64 ((min 16 k:Nat):Int)):=by
 simp only[vR];congr 2;split<;>omega
@[simp]def qAO(l:List Rg):qM (l.map wj)=true:=zj (fun x=>by simp) l
def quF{r:List Rg}{M}(h:M<=r.length):zm (.sl 2 (r.map wj) .none) none (some (.int .i64 M)) none=some (.sl 2 ((r.take M).map wj) .none):=by
 simp[zm,zM,yp,zH,h]
def quG{r:List Rg}{M}(h:M<=r.length):zm (.sl 2 (r.map wj) .none) (some (.int .i64 M)) none none=some (.sl 2 ((r.drop M).map wj) .none):=by
 simp[zm,zM,yp,zH,h,show(r.map wj).take r.length=r.map wj from qBr (by simp)]
def qo7{r:List Rg}:r.take (min 16 r.length)=r.take 16/\r.drop (min 16 r.length)=r.drop 16:=by
 by_cases h:16<=r.length
 . rw[qC9 h];exact⟨rfl,rfl⟩
 rw[qEn (by omega),qBr (by omega),qBr (by omega),qBZ (by omega),qBZ (by omega)];exact⟨rfl,rfl⟩
def qmZ(s:Str)(l:List Rg)(hl:l.length<=1000):Pure prog GG 178 [.str s,.sl 2 (l.map wj) .none] (.agg (qo (zT s l))):=by
 refine qFC ⟨false,qnS,[],[]⟩ false func178 ?_;by_cases h0:l=[]
 . subst h0;have j:zT s []=z8 0:=rfl;have B:=KY 0;rw[j];simp only[z8,qd,qFy,qFz,qFA,qFB,qBS]at B⊢;simp;refine qFG B ?_ rfl;simp
 have Z:=qBA.2 h0;have m:=qvn l.length;have f:min 16 l.length<=l.length:=qEY _ _;have g:=quF (r:=l) f;have d:=quG (r:=l) f;rw[qo7.1]at g;rw[qo7.2]at d;have hi:=qc2 s (l.take 16) (by simp;omega);have j:zT s l=yY s (kA s (l.take 16)) (zR 16 l.length (l.drop 16)):=if_neg h0;rw[j];generalize U:min 16 l.length=M at *;have G:(l.drop 16).length<=l.length:=by simp
 have K:(l.drop 16).length<=1000:=by omega
 have x:=qoe (kA s (l.take 16));generalize kA s (l.take 16)=o at *;generalize l.take 16=P at *;generalize l.drop 16=u at *;generalize O:yY s o (zR 16 l.length u)=A at *;have L:=qd o;simp only[L]at hi x;simp[h0,m,g];refine qFG hi ?_;simp[d];refine qFL (fun n ev σ=>∃(Q:List Rg) (k:Nat) (c:List AV) (out:Ex) (t:List Blk),n=Q.length/\Q.length<=k/\Q.length<=1000/\ev 0=.str s/\ev 1=.sl 2 (Q.map wj) .none/\ev 4=.ptr 0 0/\ev 6=.ptr 1 0 /\
  σ=⟨.cells [.int .i64 0,.int .i64 0,.str [],.sl 0 [] .nil]::.cells c::t,[]⟩/\Near c out/\A=yY s out (zR 16 k Q)) u.length ?_ ?_
 . exact⟨u,l.length,_,o,[],rfl,G,K,by simp,by simp,by simp,by simp,by simp,x,O.symm⟩
 rintro n ev σ R N ⟨Q,k,c,out,t,rfl,V,hq,y,i,v,e,rfl,a,b⟩;obtain⟨c0,c1,c2,c3,rfl⟩:=a.four;have w:=ZJ a.atoms;have f0:=fun H=>(a.fin H).1
 have f1:=fun H=>(a.fin H).2.1
 have J:=fun H=>(a.fin H).2.2.1
 have E:=fun H=>(a.fin H).2.2.2
 have z:=a.nr;have F:=a.leq;by_cases h:Q=[]
 . subst h;rw[show zR 16 k ([]:List Rg)=[] by cases k<;>simp[zR]]at b;have b:=b;rw[b];simp[-qL,-fin,-kw,-w9,w,f0,f1,J,E,i,v,e];simp only[qr,qBq,and_true]at z;exact⟨z,F⟩
 have X:=qBA.2 h;have m:=qvn Q.length;have f:min 16 Q.length<=Q.length:=qEY _ _;have g:=quF (r:=Q) f;have d:=quG (r:=Q) f;rw[qo7.1]at g;rw[qo7.2]at d;have hi:=qc2 s (Q.take 16) (by simp;omega);generalize min 16 Q.length=M at *;obtain⟨k,rfl⟩:∃k',k=k'+1:=⟨k-1,by omega⟩;rw[zR,if_neg h]at b;have b:A=yY s (orE out (kA s (Q.take 16))) (zR 16 k (Q.drop 16)):=b;have Y:(Q.drop 16).length=Q.length-16:=by simp
 generalize Q.take 16=P at *;generalize Q.drop 16=Q' at *;simp[i,v,e,h,m];rw[qG rfl];simp[-qL,qX,y,i,e,g];intro _;have S:=jq (kA s P);have C:=nrE (kA s P);have D:=zg (kA s P);have I:Near [.int .i64 20,.int .i64 0,.str [],.sl 4 [[c0,c1,c2,c3],qo (kA s P)] .tight] (orE out (kA s P)) :=
  qsn (yQ a.row (yQ (.inl rfl) YZ)) (by simp only[qM,qCR,qBq];exact⟨a.nr,C⟩)
 generalize qo (kA s P)=W at *;generalize orE out (kA s P)=T at *;refine qFG hi ?_;simp[-qL,w,S,D,qX,i,e,d,qV,zt,qx,zC,qe,qp];exact N Q'.length _ _ (by omega) ⟨Q',k,_,T,t,rfl,by omega,by omega,by simp[y],by simp,by simp[v],by simp[e],rfl,I,b⟩
def qdn{α}(p):∀(l:List α) (i:Nat),(zx p l i = -1/\l.find? p=none)\/∃k w,zx p l i=((i+k:Nat):Int)/\l[k]?=some w/\l.find? p=some w
 |[],i=>.inl ⟨rfl,rfl⟩
 | a::r,i=>by
  by_cases h:p a=true
  . exact .inr ⟨0,a,by simp[zx,h],by simp,by simp[h]⟩
  have ih:=qdn p r (i+1);have e:zx p (a::r) i=zx p r ((i+1:Nat):Int):=by simp[zx,h]
  rw[e];rcases ih with⟨h1,h2⟩|⟨k,w,h1,h2,b⟩
  . exact .inl ⟨h1,by simp[h,h2]⟩
  exact .inr ⟨k+1,w,by rw[h1];congr 1;omega,by simpa using h2,by simp[h,b]⟩
def qy8(w n):Pure prog GG 177 [.agg (qC w),.rptr [.int .i64 n]] (.bool (inW n w)):=by
 refine qFD func177 ?_;unfold inW;by_cases h:w.lo<=n<;>simp[-getElem?_pos,h]
def qqE(H s n)(a:s.length<2^30):qm (Dof prog) ⟨H,jP [] s⟩ 36 (wN 1 qf 0 s) (.sl 1 [[.int .i64 n]] .tight)=some (wN 1 qf 0 (s++[n]),⟨H,jP [] (s++[n])⟩) :=
 yg (D:=Dof prog) (sz:=1) (T:=[]) (H:=H) (m:=[n]) (en:=qf) D36 rfl D3 rfl (by decide) rfl (by decide) (by simp only[qBR];omega) 1 (.inl rfl)
def qnY:List (Nat×Sch×List Nat):=[(10,.step 0 [5,4,1] (.step 1 [5,4] (.step 2 [5,4,3] (.step 3 [5,4] (.step 4 [5] (.step 5 [] (.done)))))),[])]
def qhB(p:Problem)(d:Dist)(v:Var)(i:Nat)(hi:d.var=i)(D:p.vars[i]?=some v)(b1:p.vars.length<=1000)(a8:0<=v.width)(O:v.width<=8)(T:Fits d.weights):
 Pure prog GG 131 [.agg (qw p),.agg (zu d)] (.agg (qo (vO p.vars d))):=by
 refine qFC ⟨false,qnY,[],[]⟩ false func131 ?_;have I:=yo (w:=v.width) a8 (by omega);have b2:=YQ O;have C:=qas v d.weights;have b4:=qaE (N:=(zG v:Nat)) C.1 (fun x E=>by have:=C.2 x E;omega) (by omega);have a2:(ZR v d.weights).length<=1000:=by
  have:(ZR v d.weights).length<=zG v:=by unfold ZR;exact qCq (qCP _ _) (by simp)
  omega
 have G:=qj9 (ZR v d.weights) a2 (fun n Q=>by have:=C.2 n Q;omega);have K:=qmZ v.name (jr (ZR v d.weights)) (by omega);have X:ZR v d.weights=(vy v.width).filter (vX d.weights):=rfl;rw[show vO p.vars d=zT v.name (jr (ZR v d.weights)) by unfold vO;rw[hi,qBU,D]];generalize zT v.name (jr (ZR v d.weights))=U at *;generalize jr (ZR v d.weights)=RG at *;rw[X]at G;have J:=Qo v.width;have a7:∀{d r:List Int} {x:Int},vy v.width=d++x::r->x=d.length:=Ja;have b5:=(qBk.1 D).1;have M:zG v=2^v.width.toNat:=rfl;rw[<- M]at I J;generalize hN:zG v=N at *;generalize vy v.width=nums at *;have Z:=qd U;simp only[Z]at K⊢;simp[-getElem?_pos,hi,D,show ¬v.width<0 by omega,IntKind.bits,I];refine qFW nums (fun a ev σ=>ev 3=.ptr 1 0/\ev 4=.ptr 2 0/\ev 5=.ptr 3 0/\ev 6=wN 1 qf 0 (a.filter (vX d.weights))/\ev 17=.int .i64 N/\ev 18=.int .i64 a.length/\∃H,σ=⟨H,jP [] (a.filter (vX d.weights))⟩ /\
  H[1]?=some (.cells [.int .i64 i,.sl 4 (d.weights.map qC) .none])/\H[2]?=some (.cells [.int .i64 0,.int .i64 0,.str [],.sl 0 [] .nil])/\H[3]?=some (.cells (qu v))/\qr [AV.int .i64 0]=true) ?_ ?_ ?_
 . exact⟨by simp,by simp,by simp,by simp,by simp,by simp,_,by simp;rfl,by simp⟩
 . rintro a n rest ev σ R hR hd E b0 ⟨e,t,l,h,g,f,H,rfl,j,y,m,_⟩;have a9:=a7 hd;subst a9;have A:=wr (n:=(a.length:Int)+1);have c:=vC (vX d.weights) a (a.length:Int);have a0:(a.filter (vX d.weights)).length<2^30:=qC3 (qCP _ _) (by omega);have B:∀(b:Env) H' (L:List Int),L=(a++[(a.length:Int)]).filter (vX d.weights)->b 3=.ptr 1 0->b 4=.ptr 2 0->b 5=.ptr 3 0->b 6=wN 1 qf 0 L->b 17=.int .i64 N->b 18=.int .i64 (a.length+1:Nat)->(∃u,H'=H++u)->R b ⟨H',jP [] L⟩:=by
    rintro b H' L rfl P W a5 S Y V ⟨u,rfl⟩;exact hR _ _ ⟨P,W,a5,S,Y,by simpa using V,_,rfl,qa j u,qa y u,qa m u,rfl⟩
   simp[-getElem?_pos,e,g,f,show a.length<N by omega,qa j,qa m];refine qFI (Qu GG d.weights (inW a.length) 177 [] [.rptr [.int .i64 a.length]] T rfl (by simp) fun w _=>qy8 w a.length) rfl ?_ ?_
   . simp[frz]
   have F:=qdn (inW a.length) d.weights 0;simp only[qDb]at F;rcases F with⟨k1,s⟩|⟨k,w,k1,s,k3⟩
   . have o:vX d.weights a.length=false:=(by unfold vX;rw[s]);have k1:zx (inW a.length) d.weights 0 = -1:=k1;rw[k1];rw[o]at c;simp only[qBP,if_false]at c;simp[-getElem?_pos,f,A];exact B _ _ _ c.symm (by simp[e]) (by simp[t]) (by simp[l]) (by simp[h]) (by simp[g]) (by simp) ⟨_,rfl⟩
   have k1:zx (inW a.length) d.weights 0=(k:Nat):=k1;have b6:=(qBk.1 s).1;rw[k1];by_cases z:0<w.weight
   . have o:vX d.weights a.length=true:=(by unfold vX;rw[k3];simpa using z);rw[if_pos o]at c;simp[-getElem?_pos,e,h,f,A,qa j,s,z,qqE _ _ _ a0];exact B _ _ _ c.symm (by simp[e]) (by simp[t]) (by simp[l]) (by simp) (by simp[g]) (by simp) ⟨_,rfl⟩
   have o:vX d.weights a.length=false:=(by unfold vX;rw[k3];simpa using z);rw[o]at c;simp only[qBP,if_false]at c;simp[-getElem?_pos,e,f,A,qa j,s,z];exact B _ _ _ c.symm (by simp[e]) (by simp[t]) (by simp[l]) (by simp[h]) (by simp[g]) (by simp) ⟨_,rfl⟩
 rintro ev σ ⟨e,t,l,h,g,f,H,rfl,j,y,m,_⟩;rw[J]at f;have a1:=(qBk.1 y).1;simp[-getElem?_pos,g,f];rw[qG rfl];simp[-getElem?_pos,qX,l,h,m];refine qFH G (by simp only[qBz,qBS,VD,qr,qCR];exact qh1 (fun x=>by simp)) (by simp only[qBz,qBS,VD,zl,and_true];exact qgp) ?_;simp[-getElem?_pos,qX,m];refine qFG K ?_;simp[-getElem?_pos,qX,t,y,a1]
def qd5{p}(h:qg p=0):∀d∈p.dists,∃(i:Nat) (v:Var),d.var=i/\p.vars[i]?=some v:=by
 have hd:yH p.vars p.dists=0:=by
  unfold qg at h;split at h
  . exact absurd h (by assumption)
  split at h
  . rename_i h1;exact absurd h h1
  split at h
  . rename_i h1;exact absurd h h1
  rename_i h1;exact qCf.1 h1
 intro d e;obtain⟨k,b⟩:=qB1 e;have f:=(qBk.1 b).1;unfold yH at hd;have:=zs.1 hd k (by simp;omega);unfold jR at this;rw[b]at this;simp only at this;split at this
 . cases this
 rename_i a;have a:yU p.vars d.var=true:=by simpa using a
 simp only[yU,qBq,decide_eq_true_eq]at a;obtain⟨j,c⟩:=qBG a.1;rw[c]at a;simp only[qBU]at a
 cases hv:p.vars[j]? with
 |none=>rw[hv]at a;simp at a
 |some v=>exact⟨j,v,c,hv⟩
noncomputable def jB(p:Problem):List Ex:=if qg p=0 then yJ p else []
def J6(p)(h:VQ p)(hd:p.dists.length<=10000):Pure prog GG 91 [.agg (qw p)] (.sl 4 ((jB p).map qo) .none):=by
 refine qFD func91 ?_;have f:=yw p h;simp only[qw]at f;by_cases a:qg p=0
 case neg=>
  have:jB p=[]:=if_neg a;rw[this];simp;refine qFG f ?_;simp[a,Leq]
 have F:jB p=p.dists.map (vO p.vars):=if_pos a;rw[F];simp;refine qFG f ?_;simp[a,qz,show(p.dists.length:Int)<=549755813888 by omega];have z:=qd5 a;refine qFW p.dists (fun d ev σ=>ev 1=.ptr 0 0/\ev 3=.sl 4 ((d.map (vO p.vars)).map qo) (.chain 0 d.length)/\ev 14=.sl 2 (p.dists.map zu) .none/\ev 15=.int .i64 p.dists.length/\ev 16=.int .i64 d.length/\∃t,σ=⟨.cells (qw p)::t,[some d.length]⟩) ?_ ?_ ?_
 . exact⟨by simp,by simp,by simp,by simp,by simp,[],by simp⟩
 . rintro d x rest ev σ R E J l w ⟨e,g,j,c,b,t,rfl⟩;have u:=wr (n:=(d.length:Int)+1);have m:=qBl l;obtain⟨i,v,hi,o⟩:=z x m;have G:=zb (zJ a v (qBl o));have s:=qhB p x v i hi o h.vars (by omega) (by omega) (h.weights x m);have C:(d++[x]).map (vO p.vars)=d.map (vO p.vars)++[vO p.vars x]:=(by simp);have I:(d.map (vO p.vars)).length=d.length:=(by simp);have y:=jq (vO p.vars x);have A:=zg (vO p.vars x);generalize vO p.vars x=X at *;generalize d.map (vO p.vars)=D at *;have B:∀H,qm (Dof prog) ⟨H,[some d.length]⟩ 23 (.sl 4 (D.map qo) (.chain 0 d.length)) (.sl 4 [qo X] .tight)=some (.sl 4 ((D++[X]).map qo) (.chain 0 (d.length+1)),⟨H,[some (d.length+1)]⟩):=fun H=>by
    simp[qm,qR,show D.length+1<=549755813888 by omega]
   simp only[qw]at s;simp[-getElem?_pos,-qL,e,g,j,c,b,w,l];refine qFG s ?_;simp[-qL,y,A,b,u,qe,qp,B];refine E _ _ ⟨by simp[e],by rw[C];simp,by simp[j],by simp[c],by simp,t++[.cells (zu x)],?_⟩;simp
 rintro ev σ ⟨e,g,j,c,b,t,rfl⟩;have r:=qvf (p.dists.map (vO p.vars));rw[qCN]at r;simp[g,c,b,r]
def KT:∀(new c) (off),(zC c off new).length=c.length
 |[],c,off=>rfl
 |v::r,c,off=>by rw[zC,KT r];simp
def qcw(A B Z)(h:Z.length=A.length+B.length):zC (zC Z 0 A) A.length B=A++B:=by
 obtain⟨b,a,rfl,h1⟩:∃b a,Z=b++a/\b.length=A.length:=⟨Z.take A.length,Z.drop A.length,(qB9 _ _).symm,by rw[qBY];omega⟩;rw[vm A b a h1];have:=Qk (c:=a) B A 0;rw[qCV]at this;rw[this,putAt_all a B (by simp at h;omega)]
def qyr(N k)(h:k<N):zm (.ms 1 0 N 4) (some (.int .i64 (k:Int))) none none=some (.ms 1 (k*4) (N-k) 4):=by
 show(if(0:Int)<=k/\(k:Int)<=N/\(N:Int)<=N/\((k:Int)=0\/(k:Int)<N) then some (AV.ms 1 (0+(k:Int).toNat*4) ((N:Int).toNat-(k:Int).toNat) 4) else if(k:Int)=N/\(N:Int)=N then some (.sl 4 [] .none) else none)=_;rw[if_pos ⟨by omega,by omega,by omega,by omega⟩];simp
def quC(N)(h:0<N):zm (.ms 1 0 N 4) (some (.int .i64 (N:Int))) none none=some (.sl 4 [] .none):=by
 show(if(0:Int)<=N/\(N:Int)<=N/\(N:Int)<=N/\((N:Int)=0\/(N:Int)<N) then some (AV.ms 1 (0+(N:Int).toNat*4) ((N:Int).toNat-(N:Int).toNat) 4) else if(N:Int)=N/\(N:Int)=N then some (.sl 4 [] .none) else none)=_;rw[if_neg (by omega),if_pos ⟨rfl,rfl⟩]
noncomputable def zw(p:Problem):List Ex:=p.hard++jB p
def K6(p)(h:VQ p)(hd:p.dists.length<=10000):Pure prog GG 51 [.agg (qw p)] (.sl 4 ((zw p).map qo) .none):=by
 refine qFC o0 true func51 ?_;have b:=J6 p h hd;have I:=h.hard;have G:(jB p).length<=10000:=by
  unfold jB;split
  . simp[yJ,hd]
  simp
 have E:zw p=p.hard++jB p:=rfl;rw[E];generalize jB p=S at *;simp only[qw]at b;have e:=wr (n:=(p.hard.length:Int)+S.length);by_cases h0:p.hard=[]/\S=[]
 . obtain⟨h1,h2⟩:=h0;subst h2;rw[h1]at b e⊢;simp[h1];refine qFG b ?_;simp[show IntKind.i64.wrap 0=0 by decide,qz,kh,VY,zm,zM,yp,zH];have C:∀H,frz H 8 (.sl 4 [] (.chain 0 0))=.sl 4 [] .none:=fun H=>by rw[frz];simp[qE]
   rw[C];exact⟨by simp,qFN _⟩
 have w:0<p.hard.length+S.length:=by
  rcases qCI (p.hard.length+S.length) with h|h
  . exact absurd ⟨qBy (by omega),qBy (by omega)⟩ h0
  exact h
 have t:¬(p.hard.length:Int)+S.length=0:=by omega
 have l:(p.hard.length:Int)+S.length<=549755813888:=by omega
 have o:(0:Int)<=(p.hard.length:Int)+S.length:=by omega
 have u:((p.hard.length:Int)+S.length).toNat=p.hard.length+S.length:=by omega
 obtain⟨Z,i⟩:∃Z,Z=(List.replicate (p.hard.length+S.length) [AV.int .i64 0,.int .i64 0,.str [],.sl 0 [] .nil]).flatten:=⟨_,rfl⟩;have f:Z.length=(p.hard.length+S.length)*4:=by rw[i];simp
 have r:=Go.Abs.zZ (sz:=4) zg p.hard;have h2:=qcw (p.hard.flatMap qo) (S.flatMap qo) Z (by rw[f,r,Go.Abs.zZ (sz:=4) zg S,qCx]);rw[r,<- List.flatMap_append]at h2;have d:∀a:Blk,kh (Dof prog) ⟨[a,.cells Z],[]⟩ 23 (.ms 1 0 (p.hard.length+S.length) 4) (.sl 4 (p.hard.map qo) .none)=some (.int .i64 p.hard.length,⟨[a,.cells (zC Z 0 (p.hard.flatMap qo))],[]⟩):=fun a=>by
  by_cases s:p.hard=[]
  . simp[kh,VY,s,zC]
  have B:min p.hard.length (p.hard.length+S.length)=p.hard.length:=by omega
  have A:p.hard.length*4<=(p.hard.length+S.length)*4:=by omega
  simp[kh,VY,qnF,B,s,show(p.hard.map qo).take p.hard.length=p.hard.map qo from qBr (by simp),show(p.hard.map qo).flatten=p.hard.flatMap qo by rw[qCQ],f,A]
 by_cases g:S=[]
 . subst g;have m:0<p.hard.length:=(by simpa using w);have j:=quC p.hard.length m;have c:∀a:Blk,ja 1 4 qo [a,.cells (p.hard.flatMap qo)] (.ms 1 0 p.hard.length 4) p.hard:=fun a=>.inr ⟨qBA.1 m,rfl,rfl⟩
   have v:zC Z 0 (p.hard.flatMap qo)=p.hard.flatMap qo:=putAt_all _ _ (by rw[f,r];simp);rw[v]at d;simp only[qCc,qCV,qDK,Int.add_zero]at e t l o u i d;simp only[qBS]at b;generalize p.hard.flatMap qo=z at *;simp;refine qFG b ?_;simp[e,l,o,qBA.1 m,qz,<- i,d,j,show ∀σ:St,kh (Dof prog) σ 23 (.sl 4 [] .none) (.sl 4 [] .none)=some (.int .i64 0,σ) from fun σ=>by simp[kh,VY]];exact⟨(c (.cells (qw p))).frzNo zg (fun x=>nrE x) z0 7,(c (.cells (qw p))).frz zg (fun x=>nrE x) z0 7⟩
 have F:=qBA.2 g;have j:zm (.ms 1 0 (p.hard.length+S.length) 4) (some (.int .i64 p.hard.length)) none none=some (.ms 1 (p.hard.length*4) S.length 4):=by
  rw[qyr _ _ (by omega),show p.hard.length+S.length-p.hard.length=S.length by omega]
 have D:∀a:Blk,kh (Dof prog) ⟨[a,.cells (zC Z 0 (p.hard.flatMap qo))],[]⟩ 23 (.ms 1 (p.hard.length*4) S.length 4) (.sl 4 (S.map qo) .none)=some (.int .i64 S.length,⟨[a,.cells ((p.hard++S).flatMap qo)],[]⟩):=fun a=>by
  simp[kh,VY,qnF,g,show(S.map qo).take S.length=S.map qo from qBr (by simp),show(S.map qo).flatten=S.flatMap qo by rw[qCQ],show(zC Z 0 (p.hard.flatMap qo)).length=(p.hard.length+S.length)*4 by rw[KT,f],show p.hard.length*4+S.length*4<=(p.hard.length+S.length)*4 by omega,-List.flatMap_append,h2]
 have c:∀a:Blk,ja 1 4 qo [a,.cells ((p.hard++S).flatMap qo)] (.ms 1 0 (p.hard.length+S.length) 4) (p.hard++S):=fun a=>.inr ⟨by simp[g],by simp⟩
 generalize (p.hard++S).flatMap qo=z at *;generalize zC Z 0 (p.hard.flatMap qo)=J at *;simp;refine qFG b ?_;simp[e,t,l,o,qz,u,<- i,d,j,D];have f1:=(c (.cells (qw p))).frz zg (fun x=>nrE x) z0 7;have y:=(c (.cells (qw p))).frzNo zg (fun x=>nrE x) z0 7;rw[qCl]at f1;exact⟨y,f1⟩
def ZK(e:Ex):Prop:=Wen e/\hgt e<=1000/\(pre e).length<=100000
def qrW:∀(e x),x∈pre e->(pre x).length<=(pre e).length:=by
 refine qF4 fun e ih x b=>?_
 rw[jv]at b;rcases qBN.1 b with rfl|b
 . exact qBs _
 obtain⟨a,c,d⟩:=QS.1 b;exact qCq (ih a c x d) (qfX c)
def EOk.tame{s e h m}(a:EOk s h m e)(j:Fits s)(f:h<=1000)(g:m<=100000):ZK e:=by
 refine⟨fun x b=>?_,qCq a.hgt f,qCq a.size g⟩;have h1:=qrW e x b;have h2:=qg1 x;have i:=a.size;obtain⟨n1,d,c,n4⟩:=a.nodes x b;refine⟨by show x.args.length<_;omega,?_⟩;by_cases h:x.op=2
 . rwa[n4 h]
 have:=(jm n1).2.2.2.2.2.2.2 (by rintro(h'|h'|h');exact h h';exact d h';exact c h');rw[this];simp[Fits]
def qcH(n):ZK (z8 n):=by
 refine⟨fun x a=>?_,by simp[w8,z8],by rw[QQ];simp⟩;rw[QQ]at a;simp only[qBN,qDk,or_false]at a;subst a;exact⟨by simp[z8,Fits,Ex.args],by simp[z8,Fits,Ex.name]⟩
def Kq{s}(e:kW s=true)(f:Fits s){l:List Rg}(o:l.length<=128)(d:∀r∈l,qiZ r):ZK (zT s l):=by
 unfold zT;split
 . exact qcH 0
 rename_i h0;have m:=qBA.2 h0;have h1:=EOk.ins e (l:=l.take 16) (qBA.1 (by rw[qBY];omega)) (by rw[qBY];omega) (fun r h=>d r (qB6 h));have h2:=EOk.chain e (zR 16 l.length (l.drop 16)) (h:=0) h1 (fun c i=>by
  obtain⟨a,b,g⟩:=Z6 (by omega) _ _ c i;exact⟨a,b,fun r h=>d r (qCD (g r h))⟩)
 have j:=Z7 (n:=16) (by omega) l.length (l.drop 16) 7 (by rw[qCj];omega);exact h2.tame f (by omega) (by omega)
def qjx{vs}(f:∀v∈vs,jS v=0)(e:∀v∈vs,Fits v.name)(d):ZK (vO vs d):=by
 unfold vO;split
 . rename_i v h;have a:=qBl h;have h1:=zb (f v a);have h2:=qas v d.weights;have g:=YQ h1.2.2;have b:=qaE (N:=(zG v:Nat)) h2.1 (fun x c=>by have:=h2.2 x c;omega) (by omega);exact Kq h1.1 (e v a) (by omega) b.1
 exact qcH 0
def Qp{p}(h:VQ p)(b:qg p=0):∀e∈zw p++p.soft,wJ p.vars e=true/\ZK e:=by
 have c:∀e∈p.hard++p.soft,zz p.vars e=0:=by
  have:zd (zz p.vars) (p.hard++p.soft)=0:=by
   unfold qg at b;split at b
   . exact absurd b (by assumption)
   split at b
   . rename_i h1;exact absurd b h1
   rename_i h1;exact qCf.1 h1
  exact zs.1 this
 intro e a;have f:jB p=yJ p:=if_pos b;rw[zw,f]at a;rcases qBC.1 a with a|a
 . rcases qBC.1 a with a|a
   . exact⟨decide_eq_true (c e (qB5 _ a)),h.exprs e (qB5 _ a)⟩
   . obtain⟨d,hd,rfl⟩:=qBH.1 a;exact⟨decide_eq_true (qhC (zJ b) d),qjx (zJ b) h.names d⟩
 exact⟨decide_eq_true (c e (qCu _ a)),h.exprs e (qCu _ a)⟩
def qzy(H:List Blk)(T:List (Option Nat))(r:AV)(σ':St):Prop:=r=.sl 4 [] (.chain T.length 0)/\σ'.T=T++[some 0]/\∃u,σ'.H=H++u
def qh5(p)(h:VQ p)(hd:p.dists.length<=10000)(h1:p.hard=[])(h2:jB p=[])(H T):qh prog GG 51 [.agg (qw p)] ⟨H,T⟩ (qzy H T):=by
 refine qFF func51 ?_;have a:=J6 p h hd;rw[h2]at a;simp only[qw,h1]at a;simp[h1];refine qFG a ?_;simp[show IntKind.i64.wrap 0=0 by decide,qz,kh,VY,zm,zM,yp,zH];exact⟨rfl,rfl,_,rfl⟩
noncomputable def yW(p:Problem):List Int×Int :=
 if qg p=0 then(if jw p.vars (zw p)=true then((jY p.vars (zw p) (ZB p.soft)).reverse.map (·.1),0) else([],11)) else([],1)
def qop(p)(h:VQ p)(a:qg p≠0):Pure prog GG 50 [.agg (qw p)] (.tup [.sl 1 ((yW p).1.map qf) .none,.int .i64 (yW p).2]):=by
 have c:yW p=([],1):=if_neg a;rw[c];refine qFC o0 true func50 ?_;have b:=yw p h;simp only[qw]at b;simp;refine qFG b ?_;simp[a];rw[ql (by simp)];exact⟨by simp,by simp[Leq,zl]⟩
def qid(p)(h:VQ p)(a:qg p=0)(j:p.vars.length<=20)(hb:kj p.vars (qI p)<=18)(hd:p.dists.length<=10000)(f:jw p.vars (zw p)=false):Pure prog GG 50 [.agg (qw p)] (.tup [.sl 1 ((yW p).1.map qf) .none,.int .i64 (yW p).2]):=by
 rw[show yW p=([],11) by unfold yW;rw[if_pos a,f,if_neg (by simp)]];refine qFC o0 true func50 ?_;have d:=yw p h;have c:=K6 p h hd;have i:=Qp h a;have m:Fits (zw p):=by
  have h1:=h.hard;have h2:(jB p).length<=10000:=by
   have:jB p=yJ p:=if_pos a
   rwa[this,yJ,qBT]
  show(zw p).length<_;rw[zw,qBp];omega
 have b:=Zu p (zw p) h j hb m (fun e g=>(i e (qB5 _ g)).2);have l:Yz p (zw p)=false:=by
  unfold Yz;rw[f];simp
 rw[l]at b;generalize zw p=N at *;simp only[qw]at d c b;simp;refine qFG d ?_;simp[a];refine qFG c ?_;simp;refine qFG b ?_;simp;rw[ql (by simp)];exact⟨by simp,by simp[Leq,zl]⟩
def qhP(n):Pure prog GG 151 [.int .i64 n] (.agg (qo (z8 n))):=by
 refine qFD func151 ?_;simp[z8,qd,qV,zt,qx]
def qcy{d r n}(h:∀w∈d,inW n w=false):vX (d++r) n=vX r n:=by
 unfold vX;have:(d++r).find? (inW n)=r.find? (inW n):=by
  rw[qEM,qDU.2 (fun w a=>by simp[h w a])];rfl
 rw[this]
def qes(l n)(o:Fits l):Pure prog GG 150 [.sl 4 (l.map qC) .none,.int .i64 n] (.bool (vX l n)):=by
 refine qFD func150 ?_;obtain⟨r,g⟩:∃r,r=vX l n:=⟨_,rfl⟩;rw[<- g];simp[-getElem?_pos];refine qFK l (fun d ev σ=>ev 0=.sl 4 (l.map qC) .none/\ev 1=.int .i64 n/\ev 5=.int .i64 d.length/\σ=⟨[],[]⟩/\∀w∈d,inW n w=false) ?_ ?_ ?_
 . simp
 . rintro d w rest ev σ hd a i ⟨b,e,c,rfl,f⟩;have m:=wr (n:=(d.length:Int)+1) (by unfold Fits at o;omega) (by unfold Fits at o;omega)
   cases hi:inW n w with
   | true=>
    have t:r=decide (0<w.weight):=(by rw[show r=vX (w::rest) n by rw[g,hd,qcy f]];unfold vX;simp[hi]);have j:=hi;simp only[inW,qBq,decide_eq_true_eq]at j;simp[-getElem?_pos,b,e,c,i,a,j.1,j.2,t]
   | false=>
    have s:∀x,(x∈d\/x=w)->inW n x=false:=fun x a=>by
     rcases a with h|rfl
     . exact f x h
     exact hi
    by_cases h1:w.lo<=n
    . have h2:¬n<=w.hi:=fun h=>by simp[inW,h1,h]at hi
      simp[-getElem?_pos,b,e,c,i,a,h1,h2,m];exact s
    simp[-getElem?_pos,b,e,c,i,a,h1,m];exact s
 rintro ev σ ⟨b,e,c,rfl,f⟩;have:r=false:=by
  have:=qcy (r:=[]) f;rw[qB4]at this;rw[g,this];rfl
 simp[-getElem?_pos,b,c,this]
def qkX{α:Type}{en:α->List AV}{sz}{R:List α}{tok:Tok}{n}(a:n=(R.length:Int))(h:R≠[]\/tok.known=true):zm (.sl sz (R.map en) tok) none (some (.int .i64 n)) (some (.int .i64 n))=some (.sl sz (R.map en) .tight):=by
 subst a;simp[zm,zM,yp,zH,vi,show(R.map en).take R.length=R.map en from qBr (by simp),h.imp qBA.2 id]
def qa7{R X H T}(a:R.length<1000000):qm (Dof prog) ⟨H,T⟩ 23 (.sl 4 (R.map qo) .tight) (.sl 4 [qo X] .tight)=some (.sl 4 ((R++[X]).map qo) (.chain T.length 1),⟨H,T++[some 1]⟩):=by
 simp[qm,qR,show R.length+1<=549755813888 by omega]
def qaV(l):(ZB l).length=l.length:=by simp[ZB]
def qez{l k q}(h:(ZB l)[k]?=some q):k<l.length/\q.1=((l.length-1-k:Nat):Int)/\l[l.length-1-k]?=some q.2:=by
 unfold ZB at h;have a:=(qBk.1 h).1;simp at a;rw[List.getElem?_reverse (by simpa using a)]at h;simp at h
 cases hx:l[l.length-1-k]? with
 |none=>rw[hx]at h;simp at h
 |some x=>rw[hx]at h;simp at h;subst h;exact⟨a,rfl,rfl⟩
def quT{d m v}(h:d.length<m):(List.replicate (m-d.length) (0:Int)++d.reverse).set (m-1-d.length) v=List.replicate (m-(d.length+1)) 0++(d++[v]).reverse:=by
 have h1:List.replicate (m-d.length) (0:Int)=List.replicate (m-(d.length+1)) 0++[0]:=by
  rw[show m-d.length=(m-(d.length+1))+1 by omega,qD2]
 rw[h1,qBX,qCd _ _ (by simp;omega)];rw[show m-1-d.length-(List.replicate (m-(d.length+1)) (0:Int)).length=0 by simp;omega];simp
def vA{H n a r k z}(h1:qE (frz H n a)=true)(h2:Leq (frz H n a) r)(c:qE a=true->Leq a r):
 qE (frz H (n+1) (.tup [a,.int k z]))=true/\Leq (frz H (n+1) (.tup [a,.int k z])) (.tup [r,.int k z]):=by
 by_cases b:qE a=true
 . rw[ql (by simp[b])];exact⟨by simp[b],by simp[Leq,zl,c b]⟩
 have:frz H (n+1) (.tup [a,.int k z])=.tup [frz H n a,.int k z]:=by
  have h0:frz H n (.int k z)=.int k z:=ql rfl;rw[frz,if_neg (by simp[b])];simp[h0]
 rw[this];exact⟨by simp[h1],by simp[Leq,zl,h2]⟩
def qwB(p:Problem)(H:List Blk)(r:AV)(σ':St):Prop:=∃tok u T',r=.sl 4 ((zw p).map qo) tok/\(zw p≠[]\/tok.known=true)/\σ'=⟨H++u,T'⟩
def qh4(p)(h:VQ p)(hd:p.dists.length<=10000)(H T):qh prog GG 51 [.agg (qw p)] ⟨H,T⟩ (qwB p H):=by
 by_cases a:zw p=[]
 . have h0:p.hard=[]/\jB p=[]:=(by rw[zw]at a;simpa using a);refine(qh5 p h hd h0.1 h0.2 H T).imp ?_;rintro v ⟨e,c⟩ ⟨rfl,d,u,b⟩;simp only at d b;subst b;exact⟨_,u,c,by rw[a];rfl,.inr rfl,rfl⟩
 refine qh.call (K6 p h hd) (by simp) ?_;exact⟨.none,[],T,rfl,.inl a,by simp⟩
def qmw(p)(h:VQ p)(a7:p.vars.length<=20)(hb:kj p.vars (qI p)<=18)(hd:p.dists.length<=10000)(d9:p.soft.length<=10000):
 Pure prog GG 50 [.agg (qw p)] (.tup [.sl 1 ((yW p).1.map qf) .none,.int .i64 (yW p).2]):=by
 by_cases w:qg p=0
 case neg=>exact qop p h w
 by_cases Y:jw p.vars (zw p)=true
 case neg=>exact qid p h w a7 hb hd (by simpa using Y)
 have g:yW p=((jY p.vars (zw p) (ZB p.soft)).reverse.map (·.1),0):=by unfold yW;rw[if_pos w,if_pos Y]
 rw[g];dsimp only;obtain⟨a9,a1⟩:∃a9,a9=(jY p.vars (zw p) (ZB p.soft)).reverse.map (·.1):=⟨_,rfl⟩;rw[<- a1];refine qFC o0 true func50 ?_;have a4:=yw p h;have hn:=K6 p h hd;have C:=Qp h w;have h1:=h.hard;have h2:(jB p).length<=10000:=by
  have:jB p=yJ p:=if_pos w
  rwa[this,yJ,qBT]
 have c5:(zw p).length<=20000:=by rw[zw,qBp];omega
 have Z:=fun l (hl:l.length<40000) (B:∀e∈l,wJ p.vars e=true/\ZK e)=>Zu p l h a7 hb (by show l.length<_;omega) (fun e c=>(B e c).2)
 have b2:∀l,(∀e∈l,wJ p.vars e=true/\ZK e)->Yz p l=jw p.vars l:=fun l hl=>by
  have:=qBx.2 fun e c=>(hl e c).1
  unfold Yz;rw[this];simp[w]
 have j:=qh4 p h hd [.cells (qw p)] [];unfold qwB at j;have a0:=Z (zw p) (by omega) (fun e c=>C e (qB5 _ c));rw[b2 _ (fun e c=>C e (qB5 _ c)),Y]at a0;generalize zw p=N at *;generalize hL:ZB p.soft=L at *;have d0:L.length=p.soft.length:=by rw[<- hL,qaV]
 simp only[qw]at a4 hn a0 j Z;simp;refine qFG a4 ?_;simp[w];refine qFJ j ?_;rintro v σ ⟨tok,u,T,rfl,d1,rfl⟩;simp;refine qFH a0 (by cases tok<;>simp) (by cases tok<;>simp[zl,Leq,qFP]) ?_;have c9:=wr (n:=(p.soft.length:Int)-1);simp[c9];refine qFW L (fun d ev σ=>ev 1=.ptr 0 0/\ev 6=.int .i64 ((p.soft.length:Int)-1-d.length)/\∃R K tok u T,(∀r,L=d++r->jY p.vars N L=K++jY p.vars R r)/\(∀e∈R,wJ p.vars e=true/\ZK e)/\R.length<=20000+d.length/\K.length<=d.length/\ev 4=.sl 4 (R.map qo) tok/\(R≠[]\/tok.known=true)/\Va 0 1 qf T (ev 5) (K.map (·.1))/\σ=⟨.cells (qw p)::u,T⟩) ?_ ?_ ?_
 . refine⟨by simp,by simp,N,[],tok,u,T,fun r g=>by rw[g];rfl,fun e c=>C e (qB5 _ c),by simpa using c5,by simp,by simp,d1,by simpa using Va.nil,by simp⟩
 . rintro d x rest ev σ R0 A c4 B S ⟨G,F,R,K,U,o,s,M,W,b8,c7,e4,a2,f,rfl⟩;have b9:=qez (l:=p.soft) (k:=d.length) (q:=x) (by rwa[hL]);obtain⟨n1,n2,n3⟩:=b9;have y:ev 6=.int .i64 ((p.soft.length-1-d.length:Nat):Int):=(by rw[F];congr 1;omega);have c8:=qkX (en:=qo) (sz:=4) (R:=R) (tok:=U) rfl a2;have d5:=C x.2 (qCu _ (qBl n3));have Q:∀e∈R++[x.2],wJ p.vars e=true/\ZK e:=fun e c=>by
    rcases qBC.1 c with c|c
    . exact W e c
    rw[qB0]at c;rwa[c]
   have b5:=Z (R++[x.2]) (by rw[qBp,qBR];omega) Q;rw[b2 _ Q]at b5;have c1:=fun H T=>qa7 (R:=R) (X:=x.2) (H:=H) (T:=T) (by omega)
   have ha:=jq x.2;have a8:=zg x.2;have b1:=qvf (R++[x.2]);simp only[qCl,qBz,qBS]at b1;have c3:(qo x.2).take 4=qo x.2:=qBr (by rw[a8];exact qBs _);have a5:=wr (n:=((p.soft.length-1-d.length:Nat):Int)-1);have b4:=n2;generalize V:p.soft.length-1-d.length=I at *;obtain⟨v5,T5,a6,h5,d8⟩:=(f.ext (T':=s++[some 1]) (qED _ _)).append (m:=[x.1]) (D:=Dof prog) (ty:=36) (tok:=.tight) (T0:=[]) (T:=s++[some 1]) (List.nil_prefix) (D36) rfl (D3) rfl (by decide) (by rfl) (by decide) (by simp;omega) 1 (.inl rfl);simp only[qBz,qBS,qf]at a6;simp[-qL,G,e4,y,show(0:Int)<=((p.soft.length-1-d.length:Nat):Int) by omega,c8,n3,c3,ha,a8,qe,qp,c1];refine qFH b5 (by simp[b1]) (by simp) ?_;have b7:((I:Int)-1)=((p.soft.length:Int)-1-((d++[x]).length:Nat)):=(by rw[qBp,qBR];omega)
   cases hso3:jw p.vars (R++[x.2]) with
   | true=>
    simp[-qL,y,qe,qp,show IntKind.i64.wrap (x.1-1)=(p.soft.length:Int)-1-((d.length:Int)+1) by rw[b4,a5,b7,qBp,qBR];omega,<- b4,a6];refine A _ _ ⟨by simp[G],by simp,R++[x.2],K++[x],.chain s.length 1,o,T5,fun r g=>?_,Q,by simp;omega,by simp;omega,by simp,.inl (by simp),by simpa using h5,rfl⟩;rw[M (x::r) (by rw[g];simp),jY,if_pos hso3];simp
   | false=>
    simp[-qL,y,a5];refine A _ _ ⟨by simp[G],by simp[b7],R,K,U,o,s++[some 1],fun r g=>?_,W,by simp;omega,by simp;omega,by simp[e4],a2,by simpa using f.ext (qED _ _),rfl⟩;rw[M (x::r) (by rw[g];simp),jY,if_neg (by rw[hso3];simp)]
 rintro ev σ ⟨G,F,R,K,U,o,s,M,W,b8,c7,e4,a2,f,rfl⟩;rw[d0]at F;have y:ev 6=.int .i64 (-1):=by rw[F];congr 1;omega
 have hK:=M [] (by simp);rw[show jY p.vars R []=[] from rfl,qB4]at hK;rw[hK,List.map_reverse]at a1;generalize c2:K.map (·.1)=b at *;have d6:b.length<=10000:=by rw[<- c2,qBT];omega
 subst a1;rcases f with⟨rfl,f⟩|⟨j,t,_,f,_⟩
 . simp[y,f,qz];refine qFL (fun m ev σ=>ev 8=.sl 1 [] (.chain s.length 0)/\ev 53=.int .i64 0/\ev 54=.int .i64 0) 0 ⟨by simp,by simp⟩ ?_;rintro m ev σ R A ⟨E,O,a3⟩;simp[*];have hf:∀H,frz H 7 (.sl 1 [] (.chain s.length 0))=.sl 1 [] .none:=fun H=>by rw[frz];simp[qE]
   exact vA (by rw[hf];rfl) (by rw[hf];exact qFN _) (by simp)
 have d7:¬(b.length:Int)=0:=by have:=qBA.2 j;omega
 simp[y,f,qz,show(b.length:Int)<=549755813888 by omega,j];refine qFW b (fun d ev σ=>ev 8=.ms (o.length+1) 0 b.length 1/\ev 52=.sl 1 (b.map qf) (.chain t b.length)/\ev 53=.int .i64 b.length/\ev 54=.int .i64 d.length/\∃H T,σ=⟨H,T⟩/\H[o.length+1]?=some (.cells (zc (List.replicate (b.length-d.length) 0++d.reverse)))) ?_ ?_ ?_
 . refine⟨by simp,by simp,by simp,by simp,_,_,rfl,?_⟩;simp[zc]
 . rintro d x rest ev σ R A c4 B S ⟨E,P,O,a3,H,T,rfl,z⟩;have c0:=wr (n:=(d.length:Int)+1);have d4:=wr (n:=(b.length:Int)-1);have b6:=wr (n:=(b.length:Int)-1-d.length);have V:((b.length:Int)-1-d.length)=((b.length-1-d.length:Nat):Int):=(by omega);have d3:b.length-1-d.length<b.length:=(by omega);have d2:b.length-1-d.length+1<=b.length:=(by omega);have b0:=yR (a:=List.replicate (b.length-d.length) 0++d.reverse) (i:=b.length-1-d.length) (x:=x);have c6:=(qBk.1 z).1;rw[quT S]at b0;rw[V]at b6;generalize hJ:b.length-1-d.length=J at *;simp[-getElem?_pos,E,P,O,a3,S,B,d4,V,b6,z,show(zc (List.replicate (b.length-d.length) 0++d.reverse)).length=b.length by rw[qO];simp;omega,d3,d2,b0,c0];exact A _ _ ⟨by simp[E],by simp[P],by simp[O],by simp,_,_,rfl,by rw[qBp,qBR,qD7];exact qBo c6⟩
 rintro ev σ ⟨E,P,O,a3,H,T,rfl,z⟩;rw[qCh,qDN,qBL]at z;simp[*];have ho:ja (o.length+1) 1 qf H (.ms (o.length+1) 0 b.length 1) b.reverse:=.inr ⟨(by simpa using j),by simp,by rw[z,jD]⟩;have f1:=ho.frz (fun x=>by simp) (fun x=>by simp) (fun x=>by simp) 6;have f2:=ho.frzNo (fun x=>by simp) (fun x=>by simp) (fun x=>by simp) 6;rw[List.map_reverse]at f1;exact vA f2 f1 (by simp)
def vM(vs:List Var)(q:List Int×Int)(i:Int):List Int×Int:=(q.1.set i.toNat q.2,q.2+zP vs i.toNat)
def wI(vs:List Var)(l:List Int):List Int×Int:=l.foldl (vM vs) (List.replicate vs.length (-1),0)
def qS(p:Problem):List Int:=(wI p.vars p.groups.flatten).1
def VX(vs l i):wI vs (l++[i])=vM vs (wI vs l) i:=by simp[wI,qCb]
def Je(vs):∀l:List Int,(wI vs l).1.length=vs.length:=by
 intro l;have:∀(l:List Int) (q:List Int×Int),(l.foldl (vM vs) q).1.length=q.1.length:=by
  intro l
  induction l with
  |nil=>intro q;rfl
  |cons a r ih=>intro q;rw[qB2,ih];simp[vM]
 unfold wI;rw[this];simp
def jI{p}(h:qg p=0):yn p.vars p.groups:=by
 have hd:zK p.vars p.groups=0:=by
  unfold qg at h;split at h
  . exact absurd h (by assumption)
  split at h
  . rename_i h1;exact absurd h h1
  split at h
  . rename_i h1;exact absurd h h1
  exact h
 unfold zK at hd;split at hd
 . assumption
 cases hd
def Zn{vs}{i:Int}(h:yU vs i=true):∃(n:Nat) (v:Var),i=n/\vs[n]?=some v/\v.mode≠0:=by
 simp only[yU,qBq,decide_eq_true_eq]at h;obtain⟨j,a⟩:=qBG h.1;have h2:=h.2;rw[a]at h2;simp at h2
 cases hv:vs[j]? with
 |none=>rw[hv]at h2;simp at h2
 |some v=>rw[hv]at h2;exact⟨j,v,a,hv,by simpa using h2⟩
def qh8{vs}(b:∀v∈vs,0<=v.width/\v.width<=8):∀l:List Int,0<=(wI vs l).2/\(wI vs l).2<=8*l.length:=by
 intro l;have:∀(l:List Int) (q:List Int×Int),0<=q.2->0<=(l.foldl (vM vs) q).2/\(l.foldl (vM vs) q).2<=q.2+8*l.length:=by
  intro l
  induction l with
  |nil=>intro q h;simp[h]
  | cons a r ih=>
   intro q h;have d:0<=zP vs a.toNat/\zP vs a.toNat<=8:=by
    unfold zP;split
    . rename_i v c;exact b v (qBl c)
    omega
   have:=ih (vM vs q a) (by simp only[vM];omega);rw[qB2];simp only[vM,qBB]at this⊢;omega
 have:=this l (List.replicate vs.length (-1),0) (qE8 _);simpa[wI] using this
def K4:∀(n:Nat) (l:List Int),l.Nodup->(∀x∈l,0<=x/\x<n)->l.length<=n
 | 0,l,_,h=>by
  cases l with
  |nil=>simp
  |cons a r=>have:=h a (by simp);omega
 | n+1,l,c,h=>by
  by_cases d:(n:Int)∈l
  . have h1:=K4 n (l.erase (n:Int)) (c.erase _) fun x b=>by
     have h2:=(c.mem_erase_iff).1 b;have:=h x h2.2;omega
    rw[qEf d]at h1;omega
  have h1:=K4 n l c fun x b=>by
   have:=h x b;have h2:x≠(n:Int):=fun e=>d (e▸b)
   omega
  omega
def JQ{p}(h:qg p=0):p.groups.flatten.length<=p.vars.length:=K4 _ _ (jI h).2.2.1 fun i hi=>by
 obtain⟨n,v,rfl,a,_⟩:=Zn ((jI h).2.1 i hi);have:=(qBk.1 a).1;omega
def qdL(p)(h:VQ p)(B:qg p=0):Pure prog GG 93 [.agg (qw p)] (.sl 1 ((qS p).map qf) .none):=by
 refine qFC o0 true func93 ?_;have N:=yw p h;have G:=jI B;have a9:=h.vars;have P:∀v∈p.vars,0<=v.width/\v.width<=8:=fun v Y=>by have:=zb (zJ B v Y);omega
 obtain⟨l,I⟩:∃l,l=qS p:=⟨_,rfl⟩;rw[<- I];simp only[qw]at N;simp;refine qFG N ?_;by_cases t:p.vars=[]
 . have C:p.groups=[]:=by
    apply qCZ.2;intro g z;have h1:=G.1 g z;obtain⟨i,hi⟩:=qDH g h1;have:=G.2.1 i (qB3.2 ⟨g,z,hi⟩);obtain⟨n,v,_,o,_⟩:=Zn this;rw[t]at o;simp at o
   have F:l=[]:=(by rw[I,qS,C,t];rfl);subst F;simp[B,t,C,qz];refine qFL (fun m ev σ=>ev 1=.ptr 0 0/\ev 3=.sl 1 [] (.chain 0 0)/\ev 18=.int .i64 0/\ev 19=.int .i64 0/\∃u T,σ=⟨.cells (qw p)::u,T⟩) 0 ⟨by simp,by simp,by simp,by simp,_,_,by simp[t,C];exact⟨rfl,rfl⟩⟩ ?_;rintro m ev σ R A ⟨c,a,r,y,u,T,rfl⟩;simp[c,r,y,C];refine qFL (fun m ev σ=>ev 3=.sl 1 [] (.chain 0 0)/\ev 28=.int .i64 0/\ev 29=.int .i64 0) 0 ⟨by simp[a],by simp⟩ ?_;rintro m ev σ R A ⟨a,d,f⟩;simp[a,d,f];have hf:∀H,frz H 8 (.sl 1 [] (.chain 0 0))=.sl 1 [] .none:=fun H=>by rw[frz];simp[qE]
   rw[hf];exact⟨rfl,qFN _⟩
 have c0:=qBA.2 t;simp[B,t,show(p.vars.length:Int)<=549755813888 by omega,qz];have b8:=qCq (JQ B) a9;have b9:=h.groups;have a5:=h.group;refine yu p.vars.length (fun i ev σ=>ev 1=.ptr 0 0/\ev 3=.ms 1 0 p.vars.length 1/\ev 18=.int .i64 p.vars.length/\ev 19=.int .i64 (i:Int)/\σ=⟨[.cells (qw p),.cells (zc (List.replicate i (-1)++List.replicate (p.vars.length-i) 0))],[]⟩) ?_ ?_ ?_
 . refine⟨by simp,by simp,by simp,by simp,?_⟩;simp[zc]
 . rintro i ev σ R A hi ⟨c,a,r,y,rfl⟩;have b1:=wr (n:=(i:Int)+1);have b0:i+1<=p.vars.length:=hi;have a7:(zc (List.replicate i (-1)++List.replicate (p.vars.length-i) 0)).length=p.vars.length:=(by rw[qO];simp;omega);have a8:(zc (List.replicate i (-1)++List.replicate (p.vars.length-i) 0)).set i (.int .i64 (-1))=zc (List.replicate (i+1) (-1)++List.replicate (p.vars.length-(i+1)) 0):=by
    rw[yR,qCd _ _ (by simp)];have:p.vars.length-i=(p.vars.length-(i+1))+1:=by omega
    rw[this,qCK];simp[qD2]
   simp[a,r,y,show(i:Int)<p.vars.length by omega,b0,a7,a8,b1];exact A _ _ ⟨by simp[c],by simp[a],by simp[r],by simp⟩
 rintro ev σ ⟨c,a,r,y,rfl⟩;rw[qCh,qDN,qB4];have F:(wI p.vars []).1=List.replicate p.vars.length (-1):=rfl;rw[<- F];simp[c,r,y];refine qFW p.groups (fun b ev σ=>ev 1=.ptr 0 0/\ev 3=.ms 1 0 p.vars.length 1/\ev 5=.int .i64 (wI p.vars b.flatten).2/\ev 27=.sl 1 (p.groups.map qn) .none/\ev 28=.int .i64 p.groups.length/\ev 29=.int .i64 b.length/\σ=⟨[.cells (qw p),.cells (zc (wI p.vars b.flatten).1)],[]⟩) ?_ ?_ ?_
 . exact⟨by simp[c],by simp[a],by simp[wI],by simp⟩
 . rintro b g rest ev σ R A hd O b4 ⟨c,a,w,j,d,f,rfl⟩;have W:=wr (n:=(b.length:Int)+1);have z:=qBl O;have S:=a5 g z;simp[j,d,f,show(b.length:Int)<p.groups.length by omega,O];refine qFW g (fun dg ev σ=>ev 1=.ptr 0 0/\ev 3=.ms 1 0 p.vars.length 1/\ev 5=.int .i64 (wI p.vars (b.flatten++dg)).2/\ev 27=.sl 1 (p.groups.map qn) .none/\ev 28=.int .i64 p.groups.length/\ev 29=.int .i64 b.length/\ev 33=.sl 1 (g.map qf) .none/\ev 34=.int .i64 g.length/\ev 35=.int .i64 dg.length/\σ=⟨[.cells (qw p),.cells (zc (wI p.vars (b.flatten++dg)).1)],[]⟩) ?_ ?_ ?_
   . exact⟨by simp[c],by simp[a],by simp[w],by simp[j],by simp[d],by simp[f],by simp⟩
   . rintro dg v b7 ev σ R2 a0 a6 Q c1 ⟨c,a,w,j,d,f,M,E,J,rfl⟩;obtain⟨n,K,rfl,o,_⟩:=Zn (G.2.1 v (qB3.2 ⟨g,z,qBl Q⟩));have V:=(qBk.1 o).1;have X:=wr (n:=(dg.length:Int)+1) (by unfold Fits at S;omega) (by unfold Fits at S;omega);have b6:=P K (qBl o);have b2:(b.flatten++dg).length<=1000:=by
      have:(b.flatten++dg).length<=p.groups.flatten.length:=by
       rw[hd,a6];simp
      omega
     have b5:=qh8 P (b.flatten++dg);have a4:=wr (n:=(wI p.vars (b.flatten++dg)).2+K.width);have D:=VX p.vars (b.flatten++dg) (n:Int);have s:=Je p.vars (b.flatten++dg);simp only[vM,qBU,show zP p.vars n=K.width by simp[zP,o]]at D;rw[qBX]at D;generalize hQ:wI p.vars (b.flatten++dg)=q at *;obtain⟨L,nx⟩:=q;simp only at *;have a1:n+1<=p.vars.length:=V;have a2:(n:Int)<p.vars.length:=(by omega);simp[c,a,w,M,E,J,show(dg.length:Int)<g.length by omega,Q,show(zc L).length=p.vars.length by rw[qO,s],a1,a2,o,yR,a4,X];exact a0 _ _ ⟨by simp[c],by simp[a],by simp[D],by simp[j],by simp[d],by simp[f],by simp[M],by simp[E],by simp,by simp[D]⟩
   rintro ev σ ⟨c,a,w,j,d,f,M,E,J,rfl⟩;simp[f,E,J,W];exact A _ _ ⟨by simp[c],by simp[a],by simp[w],by simp[j],by simp[d],by simp⟩
 rintro ev σ ⟨c,a,w,j,d,f,rfl⟩;have a3:(wI p.vars p.groups.flatten).1=l:=I.symm;have s:=Je p.vars p.groups.flatten;rw[a3]at s⊢;simp[a,d,f];have Z:l≠[]:=fun e=>by rw[e]at s;simp at s;omega
 have U:ja 1 1 qf [.cells (qw p),.cells (zc l)] (.ms 1 0 p.vars.length 1) l:=.inr ⟨Z,by rw[s],by rw[jD];rfl⟩;exact⟨U.frzNo (fun x=>by simp) (fun x=>by simp) (fun x=>by simp) 7,U.frz (fun x=>by simp) (fun x=>by simp) (fun x=>by simp) 7⟩
def y8{p}(h:qg p=0):(p.vars.map (·.name)).Nodup:=by
 have a:jd p.vars=0:=by
  unfold qg at h;split at h
  . exact absurd h (by assumption)
  rename_i h1;exact qCf.1 h1
 have hd:qqy p.vars=false:=by
  unfold jd at a;split at a
  . cases a
  split at a
  . rename_i h1;exact absurd a h1
  split at a
  . cases a
  rename_i h1;simpa using h1
 unfold qqy at hd;rw[qCM]at hd;refine qC2.2 fun i j hi b c e=>?_
 simp only[qBT]at hi b;rw[qC1,qC1]at e;have:=hd j (qCe.2 b);unfold Qz at this;rw[qBm b]at this;simp only[wK,qBM]at this;exact this ⟨p.vars[i],by rw[qD9];exact⟨i,by omega,rfl⟩,by simpa using e⟩
def qbZ{vs:List Var}{m σ}(a:σ.H[m]?=some (v8 vs))(b:(vs.map (·.name)).Nodup){i:Nat}{v:Var}(c:vs[i]?=some v):zF (Dof prog) σ 216 (.map m) (.str v.name) true=some (.tup [.int .i64 (i:Int),.bool true]):=by
 have:=qfs b c 0;unfold v8 at a;generalize (v9 vs).map Ye=E at *;simp[zF,a,zI,this]
def qrg(p:Problem)(e)(K:(p.vars.map (·.name)).Nodup)(b:zz p.vars e=0)(c:ZK e){H M}(E:H[M]?=some (v8 p.vars))(T):
 qh prog GG 232 [.map M,.agg (qo e)] ⟨H,T⟩ (fun r σ'=>r=.int .i64 0/\KpL [] H σ'.H):=by
 refine qFF func232 ?_;have m:=QE e c.1 c.2.2;have y:=Jc e c.1 c.2.2;have x:zr e=0/\Yy e=false/\ZD p.vars e=false:=by
  unfold zz at b;split at b
  . rename_i h;exact absurd b h
  rename_i h;split at b
  . cases b
  split at b
  . cases b
  rename_i h2 D;exact⟨qCf.1 h,by simpa using h2,by simpa using D⟩
 have h0:zS [3,24] e=[]:=by
  have:=Q9 (e:=e);rw[x.2.1]at this
  cases g:zS [3,24] e with
  |nil=>rfl
  |cons a r=>rw[g]at this;simp at this
 have F:∀s∈zS [2] e,∃(i:Nat) (v:Var),p.vars[i]?=some v/\v.name=s:=fun s J=>by
  have:=QX (l:=p.vars) (e:=e);rw[x.2.2,qCM]at this;have h1:=this s J;simp only[qC5,Bool.not_eq_false,wK,qBM]at h1;obtain⟨v,L,t⟩:=h1;obtain⟨i,hi⟩:=qB1 L;exact⟨i,v,hi,by simpa using t⟩
 have P:(zS [2] e).length<=100000:=K7 c.2.2;rw[h0]at m;have G:=qd e;rw[G]at m y⊢;generalize zS [2] e=N at *;simp;refine qFG m ?_;simp;refine qFG y ?_;simp;refine qFW N (fun d ev σ=>ev 0=.map M/\ev 14=.sl 1 (N.map jo) .none/\ev 15=.int .i64 N.length/\ev 16=.int .i64 d.length/\KpL [] H σ.H) ?_ ?_ ?_
 . exact⟨by simp,by simp,by simp,by simp,qGe⟩
 . rintro d s rest ev ⟨B,z⟩ R I hd A O ⟨u,w,j,o,f⟩;obtain⟨i,v,hi,t⟩:=F s (qBl A);have g:=qbZ (σ:=⟨B,z⟩) (f.2 _ _ E (by simp)) K hi;rw[t]at g;have C:=wr (n:=(d.length:Int)+1);simp[u,w,j,o,show(d.length:Int)<N.length by omega,A,g,C];exact I _ _ ⟨by simp[u],by simp[w],by simp[j],by simp,f⟩
 rintro ev ⟨B,z⟩ ⟨u,w,j,o,f⟩;simp[j,o];exact f
def qnX:List (Nat×Sch×List Nat):=[(7,.step 0 [7,3,2,1] (.step 1 [7,3,2] (.step 2 [7,3] (.step 3 [7] (.step 4 [7,5] (.step 5 [7] (.step 6 [7] (.step 7 [] (.done)))))))),[]),(9,.step 0 [8,7] (.step 1 [8,7,6,4,3,2] (.step 2 [8,7,6,4,3] (.step 3 [8,7,6,4] (.step 4 [8,7,6] (.step 5 [8,7,6] (.step 6 [8,7] (.step 7 [8] (.step 8 [] (.done))))))))),[6])]
def qAJ(d:List Nd)(p:Problem)(H:List Blk)(r:AV)(σ':St):Prop :=
 ∃B M,r=.tup [.ptr B 0,.int .i64 0]/\H.length<=B/\H.length<=M/\M≠B/\KpL [] H σ'.H/\σ'.H[B]?=some (.cells (.sl 3 (d.map qU) .none::(qw p++[.sl 1 ((qS p).map qf) .none,.map M])))/\σ'.H[M]?=some (v8 p.vars)
def qhr{vs:List Var}{i}{v:Var}(a:vs[i]?=some v):v9 (vs.take (i+1))=v9 (vs.take i)++[(v.name,.int .i64 (i:Int),i)]:=by
 have b:=(qBk.1 a).1;unfold v9;rw[qBQ,a];simp[qDB,qC9 (qFr b)]
def qmT{vs:List Var}(c:(vs.map (·.name)).Nodup){i}{v:Var}(b:vs[i]?=some v)(k):jQ (.str v.name) ((v9 (vs.take i)).map Ye) k=some none:=by
 have l:=(qBk.1 b).1;rcases ZU (s:=v.name) (v9 (vs.take i)) k with⟨h1,_⟩|⟨j,q,h1,h2,_⟩
 . exact h1
 exfalso;obtain⟨w,a,rfl⟩:=qft h1;rw[qCi]at a;split at a
 . rename_i e;obtain⟨d,f⟩:=qBk.1 a;obtain⟨_,g⟩:=qBk.1 b;have h:=qC2.1 c;have h2:w.name=v.name:=h2;exact h j i (by simpa using d) (by simpa using l) e (by rw[qC1,qC1,f,g,h2])
 cases a
def qm8(d)(hd:DagOk d)(p)(h:VQ p)(A:qg p=0)(e)(i:zz p.vars e=0)(z:ZK e)(H T):
 qh prog GG 182 [.agg (z6 d),.agg (qw p),.agg (qo e)] ⟨H,T⟩ (qAJ d p H):=by
 refine qFE ⟨false,qnX,[],[]⟩ func182 ?_;have G:=qdt d hd;have y:=yw p h;have s:=Km e z.1 (by have:=z.2.1;omega);have D:=qdL p h A;have J:=y8 A;have L:zr e=0:=by
  unfold zz at i;split at i
  . rename_i h;exact absurd i h
  rename_i h;exact qCf.1 h
 have a1:=h.vars;have F:=fun H M (hM:H[M]?=some (v8 p.vars)) T=>qrg p e J i z hM T
 rw[A]at y;rw[L]at s;generalize U:qS p=Q at *;rw[qd e]at s F⊢;simp only[z6]at G;simp only[qw]at y D;simp;refine qFG G ?_;simp[unA];refine qFG y ?_;simp;refine qFG s ?_;simp;rw[wd (by rfl)];simp;refine qFG D ?_;simp[qV,zt,qx];refine qFW p.vars (fun a ev σ=>ev 4=.ptr (H.length+1) 0/\ev 5=.ptr (H.length+2) 0/\ev 8=.ptr (H.length+4) 0/\ev 32=.sl 4 (p.vars.map qu) .none/\ev 33=.int .i64 p.vars.length/\ev 34=.int .i64 a.length /\
  KpL [] H σ.H/\σ.H[H.length+1]?=some (.cells (qw p))/\σ.H[H.length+2]?=some (.cells [.int .i64 e.op,.int .i64 e.n,.str e.name,.sl 4 (e.args.map qo) .none])/\σ.H[H.length+3]?=some (.map ((v9 (p.vars.take a.length)).map Ye) a.length) /\
  σ.H[H.length+4]?=some (.cells (.sl 3 (d.map qU) .none::(qw p++[.sl 1 (Q.map qf) .none,.map (H.length+3)])))) ?_ ?_ ?_
 . refine⟨by simp,by simp,by simp,by simp,by simp,by simp,qGe,?_,?_,?_,?_⟩
   . exact lk1
   . exact lk2
   . exact lk3
   . exact lk4
 . rintro a v rest ev ⟨g,B⟩ R W hd m a0 ⟨K,t,j,r,l,f,o,C,w,c,b⟩;have N:=wr (n:=(a.length:Int)+1);have S:=qmT J m 0;have V:=qhr m;have P:=(qBk.1 c).1;have O:∀(u:List Blk) (T:List (Option Nat)),zq (Dof prog) ⟨g++u,T⟩ 216 (.map (H.length+3)) (.str v.name) (.int .i64 (a.length:Int))=some ⟨g.set (H.length+3) (.map ((v9 (p.vars.take (a.length+1))).map Ye) (a.length+1))++u,T⟩:=fun u T=>by
    rw[V,qCl];generalize (v9 (p.vars.take a.length)).map Ye=E at *;simp[zq,qa c,zI,S,kF c,Ye]
   generalize X:(v9 (p.vars.take (a.length+1))).map Ye=Z at *;simp only[qw,qBV,qBL]at b;simp[r,l,f,show(a.length:Int)<p.vars.length by omega,m];rw[qG rfl];simp[qX,j,f,qa b,O,N];refine W _ _ ⟨by simp[K],by simp[t],by simp[j],by simp[r],by simp[l],by simp,(o.setF (by omega)).trans qGe,qa (by rw[qBn (by omega)];exact C) _,qa (by rw[qBn (by omega)];exact w) _,?_,qa (by rw[qBn (by omega)];exact b) _⟩;rw[qBp,qBR,X];exact qa (qBo P) _
 rintro ev ⟨g,B⟩ ⟨K,t,j,r,l,f,o,C,w,c,b⟩;rw[qCS]at c;have I:=c;have Y:=b;simp only[qw,qBV,qBL]at b;simp[l,f];rw[qG rfl];simp[qX,t,j,b,w];refine qFJ (F g (H.length+3) I B) ?_;rintro v ⟨H2,T2⟩ ⟨rfl,x⟩;simp[qX];exact⟨H.length+4,H.length+3,rfl,by omega,by omega,by omega,o.trans x,by rw[U];exact x.2 _ _ Y (by simp),x.2 _ _ I (by simp)⟩
def kE(vs:List Var)(l:List Int):Int:=(l.map fun i=>zP vs i.toNat).sum
def Vp(vs l i):kE vs (l++[i])=kE vs l+zP vs i.toNat:=by simp[kE]
def JA{vs}(a:∀v∈vs,0<=v.width)(n):0<=zP vs n:=by
 unfold zP;split
 . rename_i v b;exact a v (qBl b)
 omega
def YO{vs}(b:∀v∈vs,0<=v.width):∀l:List Int,0<=kE vs l
 |[]=>by simp[kE]
 | a::r=>by
  have:=YO b r;have:=JA b a.toNat;simp only[kE,qBz,qDv]at *;omega
def qb9(vs l m):kE vs (l++m)=kE vs l+kE vs m:=by simp[kE]
def Vo{vs}(a:∀v∈vs,0<=v.width)(l k):kE vs (l.take k)<=kE vs l:=by
 have h1:=qb9 vs (l.take k) (l.drop k);rw[qB9]at h1;have:=YO a (l.drop k);omega
def qgm{vs}{l:List Int}(b:∀i∈l,∃n:Nat,i=n/\n<vs.length)(c:l.Nodup):∀m,m<=l.length->(wI vs (l.take m)).2=kE vs (l.take m)/\∀k (i:Int),k<m->l[k]?=some i->(wI vs (l.take m)).1[i.toNat]?=some (kE vs (l.take k))
 |0,_=>⟨by simp[wI,kE],fun k i h=>by omega⟩
 | m+1,x=>by
  obtain⟨d,g⟩:=qgm b c m (by omega);obtain⟨j,a⟩:∃j,l[m]?=some j:=⟨_,qBm (by omega)⟩;have t:l.take (m+1)=l.take m++[j]:=by rw[qBQ,a];rfl
  obtain⟨n,rfl,w⟩:=b j (qBl a);have z:=Je vs (l.take m);rw[t,VX,Vp];refine⟨by simp only[vM,d],fun k i y hi=>?_⟩;simp only[vM,qBU];by_cases e:k=m
  . subst e;rw[a]at hi;cases hi;rw[qBU,qBo (by omega),d]
  obtain⟨u,rfl,v⟩:=b i (qBl hi);have r:n≠u:=by
   rintro rfl;have o:=qC2.1 c;obtain⟨s,f⟩:=qBk.1 a;obtain⟨b1,b2⟩:=qBk.1 hi;exact o k m b1 s (by omega) (by rw[f,b2])
  rw[qBU,qBn r];exact g k _ (by omega) hi
def qb7{f:Int->Int}:∀{l:List Int}{a:Int},a∈l->((l.erase a).map f).sum+f a=(l.map f).sum
 | x::r,a,h=>by
  rw[List.erase_cons];split
  . rename_i b;have:x=a:=by simpa using b
    subst this;simp;omega
  rename_i b;have b:¬x=a:=by simpa using b
  have h2:a∈r:=(qBN.1 h).resolve_left (Ne.symm b);have:=qb7 (f:=f) h2;simp;omega
def qd9{f:Int->Int}(c:∀i,0<=f i):∀(n:Nat) (l:List Int),l.Nodup->(∀x∈l,0<=x/\x<n)->(l.map f).sum<=((List.range n).map fun k:Nat=>f k).sum
 | 0,l,_,h=>by
  cases l with
  |nil=>simp
  |cons a r=>have:=h a (by simp);omega
 | n+1,l,d,h=>by
  rw[qCL,qCl,qE4];simp only[qBz,qBS,qDv,qFs];by_cases g:(n:Int)∈l
  . have h1:=qd9 c n (l.erase (n:Int)) (d.erase _) fun x b=>by
     have h2:=(d.mem_erase_iff).1 b;have:=h x h2.2;omega
    have:=qb7 (f:=f) g;omega
  have h1:=qd9 c n l d fun x b=>by
   have:=h x b;have h2:x≠(n:Int):=fun e=>g (e▸b)
   omega
  have:=c n;omega
def qrJ(vs:List Var)(i:Int):Int:=if yU vs i=true then zP vs i.toNat else 0
def ql0:∀(vs),((List.range vs.length).map fun k:Nat=>qrJ vs k).sum=yK vs:=by
 have gen:∀(vs pre:List Var),((List.range' pre.length vs.length).map fun k:Nat=>qrJ (pre++vs) k).sum=yK vs:=by
  intro vs
  induction vs with
  |nil=>intro pre;rfl
  | cons v r ih=>
   intro pre;have:=ih (pre++[v]);rw[qBX,qDD,qBp,qBR]at this;rw[qBB,qC0,qBz,qDv,this];simp only[yK];congr 1;simp only[qrJ,yU,zP,qBU,show(pre++v::r)[pre.length]?=some v by rw[qBt (qBs _),qCh];rfl];by_cases a:v.mode=0<;>simp[a]
 intro vs;have:=gen vs []
 rwa[qCc,<- qCF,qBL]at this
def qhu{p}(h:qg p=0):yK p.vars<=20:=by
 have a:jd p.vars=0:=by
  unfold qg at h;split at h
  . exact absurd h (by assumption)
  rename_i h1;exact qCf.1 h1
 unfold jd at a;split at a
 . cases a
 split at a
 . rename_i h1;exact absurd a h1
 split at a
 . cases a
 split at a
 . cases a
 split at a
 . cases a
 omega
def Y1{p}(h:qg p=0):∀i∈p.groups.flatten,∃n:Nat,i=n/\n<p.vars.length:=fun i hi=>by
 obtain⟨n,v,rfl,a,_⟩:=Zn ((jI h).2.1 i hi);exact⟨n,rfl,(qBk.1 a).1⟩
def QH{p}(h:qg p=0):∀v∈p.vars,0<=v.width:=fun v a=>by have:=zb (zJ h v a);omega
def Wu{p}(h:qg p=0):kE p.vars p.groups.flatten<=20:=by
 have h1:=qd9 (f:=qrJ p.vars) (fun i=>by unfold qrJ;split;exact JA (QH h) _;omega) p.vars.length p.groups.flatten (jI h).2.2.1 (fun i hi=>by
  obtain⟨n,rfl,b⟩:=Y1 h i hi;omega)
 rw[ql0]at h1;have h2:=qhu h;have a:(p.groups.flatten.map (qrJ p.vars)).sum=kE p.vars p.groups.flatten:=by
  unfold kE;congr 1;exact qCy fun i hi=>by unfold qrJ;rw[if_pos ((jI h).2.1 i hi)]
 omega
def kR(p):(qS p).length=p.vars.length:=Je p.vars _
def Wc{p:Problem}(h:qg p=0){k:Nat}{n:Nat}(a:p.groups.flatten[k]?=some (n:Int)):(qS p)[n]?=some (kE p.vars (p.groups.flatten.take k)):=by
 have h1:=(qgm (Y1 h) (jI h).2.2.1 p.groups.flatten.length (qBs _)).2 k _ (qBk.1 a).1 a
 rwa[qCS,qBU]at h1
def qj0{p:Problem}(h:qg p=0){n:Nat}{v:Var}(a:p.vars[n]?=some v)(b:v.mode≠0):∃k:Nat,p.groups.flatten[k]?=some (n:Int):=by
 have:=(jI h).2.2.2 n (qBk.1 a).1 (by simp[*,yU]);exact qB1 this
def qkQ{p:Problem}(h:qg p=0):∀(i:Nat) (v:Var) (l:Int),p.vars[i]?=some v->(qS p)[i]?=some l->v.mode≠0->0<=l/\l+v.width<=20:=fun i v l b d e=>by
 obtain⟨k,a⟩:=qj0 h b e;have h1:=Wc h a;rw[d]at h1;cases h1;have h2:=YO (QH h) (p.groups.flatten.take k);have c:=Vo (QH h) p.groups.flatten (k+1);rw[show p.groups.flatten.take (k+1)=p.groups.flatten.take k++[(i:Int)] by rw[qBQ,a];rfl,Vp]at c;have f:zP p.vars (i:Int).toNat=v.width:=by simp[zP,b]
 have g:=Wu h;omega
def quz(W):(Instr.typeAssert .nilIface 20 261 true).run prog W=.ok (.tuple #[.agg #[.int .i64 0],.bool false]) W:=by kernel_rfl
def quy(W v):(Instr.typeAssert (.iface 261 v) 20 261 true).run prog W=.ok (.tuple #[v,.bool true]) W:=by kernel_rfl
def Jt(B x y)(a:List PanicEntry)(w)(f:B<w.heap.size)(g:w.cell? ⟨B,0,none⟩=some x)(c:w.frozen? ⟨B,0,none⟩=false):
 CallsD prog 233 #[.pointer (some ⟨B,0,none⟩)] (.panicking ({v:=.iface 261 (.agg #[.int .i64 y]),recovered:=false}::a)) w fun e b w'=>
  e=.returned (.tuple #[])/\b=.panicking ({v:=.iface 261 (.agg #[.int .i64 y]),recovered:=true}::a)/\w'=(w.alloc (.cells #[.int .i64 y] 261)).setCell ⟨B,0,none⟩ (.int .i64 y):=by
 refine callsD_of_wpS func233 rfl fun h cs d=>?_
 apply wpS_seq;apply wpS_region;simp[wpOpsS,go_sem,recoverD,d,Tryz.ntmps233,Exit.thenS];apply wpS_seq;apply wpS_region;simp[wpOpsS,go_sem,recoverD,Exit.thenS,quy];apply wpS_seq;apply wpS_region;simp[wpOpsS,go_sem,Exit.thenS];refine wpS_cond (t:=true) (by simp[Act.eval,Array.replicate]) ?_;simp;apply wpS_region;simp[wpOpsS,go_sem,recoverD,bodyPostS,results,Tryz.results233,c,frozen?_alloc_cells,World.cell?_alloc_past _ _ _ f];rw[g];simp[Result.andThen_ok,go_sem]
def qbo(p:Addr)(w):
 CallsD prog 233 #[.pointer (some p)] .returning w fun e b w'=>e=.returned (.tuple #[])/\b=.returning/\w'=w.alloc (.cells #[.int .i64 0] 261):=by
 refine callsD_of_wpS func233 rfl fun c cs a=>?_
 apply wpS_seq;apply wpS_region;simp[wpOpsS,go_sem,recoverD,a,Tryz.ntmps233,Exit.thenS];apply wpS_seq;apply wpS_region;simp[wpOpsS,go_sem,recoverD,a,Exit.thenS,quz];apply wpS_seq;apply wpS_region;simp[wpOpsS,go_sem,Exit.thenS];refine wpS_cond (t:=false) (by simp[Act.eval,Array.replicate]) ?_;simp;apply wpS_seq;apply wpS_region;simp[wpOpsS,go_sem,recoverD,Exit.thenS];refine wpS_cond (t:=false) (by simp[Act.eval,Array.replicate]) ?_;simp;refine wpS_of_wp (wp_skip ?_);cases c;simp_all[bodyPostS,results,Tryz.results233]
def qiL{G H:Glo}(M:H.g=G.g){Q R:AV->St->Prop}{f:Nat}{first cap:List AV}{σ:St}
 (h:qh prog H f (first++cap) (σ.push (.cells [.int .i64 0])) R)
 (hR:∀v τ,R v τ->(∃x,τ.H[σ.H.length]?=some (.cells [x]))/\Q (.int .i64 0) ⟨τ.H.set σ.H.length (.cells [.int .i64 0])++[.cells [.int .i64 0]],τ.T⟩)
 (hX:∀c τ,H.X c τ->(∃x,τ.H[σ.H.length]?=some (.cells [x]))/\∃k,c=[{v:=.iface 261 (.agg #[.int .i64 k]),recovered:=false}]/\Q (.int .i64 k) ⟨τ.H.set σ.H.length (.cells [.int .i64 k])++[.cells [.int .i64 k]],τ.T⟩):
 qh prog G 183 [.fn f first cap] σ Q:=by
 refine⟨by kernel_rfl,fun w0 ro0 K w vs hw a3=>?_⟩;simp only[qj]at a3;obtain⟨v0,vr,e0,⟨va,vb,rfl,ha,hb⟩,rfl⟩:=a3;have a5:vs = #[.func (.func f) va vb]:=by apply Array.ext';simpa using e0
 subst a5
 go_enter_defers func183,Tryz.ntmps183
 go_wp2
 rw[J3 h.1,Oper.upon_enter];have a4:WRel H.g w0 ro0 (K.addM σ.H.length w.heap.size (yc (.cells #[.int .i64 0] 37))) (σ.push (.cells [.int .i64 0])) (w.alloc (.cells #[.int .i64 0] 37)):=by
  rw[M];exact hw.push ⟨#[.int .i64 0],37,rfl,by simp,by simp,fun i a e=>by
   cases i with
   |zero=>simp at e;subst e;exact⟨_,rfl,by simp[qi]⟩
   |succ i=>simp at e⟩
 have y:=qFT hw w.heap.size (yc (.cells #[.int .i64 0] 37));generalize a6:K.addM σ.H.length w.heap.size (yc (.cells #[.int .i64 0] 37))=C at a4 y;have W:C.m σ.H.length=some w.heap.size:=by rw[<- a6];simp[Kn.addM]
 have a2:qi C (.ptr σ.H.length 0) (.pointer (some ⟨w.heap.size,0,none⟩)):=by simp only[qi];exact⟨_,W,rfl⟩
 have a8:qj C (first++cap) (va++vb).toList:=by
  rw[Array.toList_append];exact(qj.mono y _ ha).append (qj.mono y _ hb)
 refine Calls.mono (h.2 w0 ro0 C _ _ a4 a8) ?_;rintro e w' (⟨v',v,τ,L,rfl,k1,d,k3,k4⟩|⟨c,τ,L,rfl,k1,d,k3⟩)
 . obtain⟨⟨x,l⟩,U⟩:=hR v τ k4;have u:L.m σ.H.length=some w.heap.size:=k1.m _ _ W;rw[M]at d;obtain⟨s,Y,a0⟩:=Zt (P:=prog) (t:=37) (x:=.int .i64 0) (x':=.int .i64 0) d (a2.mono k1) (by simp[qi]) (σ':=⟨τ.H.set σ.H.length (.cells [.int .i64 0]),τ.T⟩) (by simp[Vq,l,D37]);obtain⟨B',B,g2,O,⟨cs,el,z,g5,g6,S⟩,g8⟩:=d.blk _ _ l;rw[u]at B;cases B;obtain⟨I,N,_⟩:=S 0 x rfl;have F:w'.cell? ⟨w.heap.size,0,none⟩=some I:=(by simp[World.cell?,z,N]);have D:w'.frozen? ⟨w.heap.size,0,none⟩=false:=by simp[World.frozen?,z]
   go_wp2
   have J:w'.setCell ⟨w.heap.size,0,none⟩ (.int .i64 0)=s:=by
    have:=Y;simp[Instr.storeAt,go_sem,F,D]at this;exact this
   rw[J];have E:=a0.push (b:=.cells [.int .i64 0]) (o:=.cells #[.int .i64 0] 261) ⟨#[.int .i64 0],261,rfl,by simp,by simp,fun i a e=>by
    cases i with
    |zero=>simp at e;subst e;exact⟨_,rfl,by simp[qi]⟩
    |succ i=>simp at e⟩
   have r:=qFT a0 s.heap.size (yc (.cells #[.int .i64 0] 261));have j:=(qBk.1 l).1;have V:(s.alloc (.cells #[.int .i64 0] 261)).cell? ⟨w.heap.size,0,none⟩=some (.int .i64 0):=by
    obtain⟨B',A,q2,q3,⟨cs,el,Z,q5,q6,q7⟩,q8⟩:=E.blk σ.H.length (.cells [.int .i64 0]) (by simp only[St.push];rw[qBv (by simpa using j),qBo j]);rw[r.m _ _ u]at A;cases A;obtain⟨v,h1,h2⟩:=q7 0 _ rfl;simp only[qi]at h2;subst h2;simp[World.cell?,Z,h1]
   refine leaves_cons (f:=233) (args:=#[.pointer (some ⟨w.heap.size,0,none⟩)]) (by simp) (by simp[go_sem]) ?_;refine(qbo ⟨w.heap.size,0,none⟩ _).mono ?_;rintro e u' a7 ⟨rfl,rfl,rfl⟩;simp[Leaves,settle,results,Tryz.results183,go_sem,V];exact⟨_,_,_,qFY y (qFY k1 r),E,by simp[qi],U⟩
 obtain⟨⟨x,l⟩,k,rfl,U⟩:=hX c τ k3;have u:L.m σ.H.length=some w.heap.size:=k1.m _ _ W;rw[M]at d;obtain⟨B',B,g2,O,⟨cs,el,z,g5,g6,S⟩,g8⟩:=d.blk _ _ l;rw[u]at B;cases B;obtain⟨I,N,_⟩:=S 0 x rfl;have F:w'.cell? ⟨w.heap.size,0,none⟩=some I:=by simp[World.cell?,z,N]
 have D:w'.frozen? ⟨w.heap.size,0,none⟩=false:=by simp[World.frozen?,z]
 have j:=(qBk.1 l).1;have E:=d.push (b:=.cells [.int .i64 k]) (o:=.cells #[.int .i64 k] 261) ⟨#[.int .i64 k],261,rfl,by simp,by simp,fun i a e=>by
  cases i with
  |zero=>simp at e;subst e;exact⟨_,rfl,by simp[qi]⟩
  |succ i=>simp at e⟩
 have r:=qFT d w'.heap.size (yc (.cells #[.int .i64 k] 261));obtain⟨s,Y,a1⟩:=Zt (P:=prog) (t:=37) (x:=.int .i64 k) (x':=.int .i64 k) E (a2.mono (qFY k1 r)) (by simp[qi]) (σ':=⟨τ.H.set σ.H.length (.cells [.int .i64 k])++[.cells [.int .i64 k]],τ.T⟩)
  (by simp[Vq,qBv j,l,D37,List.set_append_left _ _ j,St.push])
 have J:(w'.alloc (.cells #[.int .i64 k] 261)).setCell ⟨w.heap.size,0,none⟩ (.int .i64 k)=s:=by
  have:=Y;simp[Instr.storeAt,go_sem,D,frozen?_alloc_cells,World.cell?_alloc_past _ _ _ O]at this;rw[F]at this;simpa[Result.andThen_ok,go_sem] using this
 have V:s.cell? ⟨w.heap.size,0,none⟩=some (.int .i64 k):=by
  obtain⟨B',A,q2,q3,⟨cs,el,Z,q5,q6,q7⟩,q8⟩:=a1.blk σ.H.length (.cells [.int .i64 k]) (by simp only;rw[qBv (by simpa using j),qBo j]);rw[r.m _ _ u]at A;cases A;obtain⟨v,h1,h2⟩:=q7 0 _ rfl;simp only[qi]at h2;subst h2;simp[World.cell?,Z,h1]
 simp only[Exit.then];refine leaves_cons (f:=233) (args:=#[.pointer (some ⟨w.heap.size,0,none⟩)]) (by simp) (by simp[go_sem]) ?_;refine(Jt w.heap.size I k [] _ O F D).mono ?_;rintro e u' a7 ⟨rfl,rfl,rfl⟩;rw[J];simp[Leaves,settle,results,Tryz.results183,go_sem,V];exact⟨_,_,_,qFY y (qFY k1 r),a1,by simp[qi],U⟩
def VZ{p e}(a:zz p.vars e=0)(i:ZK e):qi1 p e/\zr e=0:=by
 have c:zr e=0/\Yy e=false/\ZD p.vars e=false:=by
  unfold zz at a;split at a
  . rename_i h;exact absurd a h
  rename_i h;split at a
  . cases a
  split at a
  . cases a
  rename_i h2 g;exact⟨qCf.1 h,by simpa using h2,by simpa using g⟩
 refine⟨fun x d=>?_,c.1⟩;have f:=Qa c.1 x d;have h1:=c.2.1;have h2:=c.2.2;rw[Yy,qCM]at h1;rw[ZD,qCM]at h2;have h1:=h1 x d;have h2:=h2 x d;refine⟨f,fun h=>h1 (by simp[h]),fun h=>h1 (by simp[h]),fun h=>?_,?_⟩
 . cases hh:wK p.vars x.name with
   |true=>rfl
   |false=>exact absurd (by simp[*]) h2
 have b:=(jm f).2.2.2.2.1;unfold qk at b;split at b
 . simp at b;omega
 simp at b;unfold zE at b
 repeat' split at b
 all_goals omega
def qnW:List (Nat×Sch×List Nat):=[(0,.step 1 [5,4,3] (.step 2 [5,4,3] (.fork (.cons 0 (.step 3 [5,4] (.step 4 [5] (.step 5 [] (.done)))) (.cons 3 (.step 0 [5,4] (.step 4 [5] (.step 5 [] (.done)))) (.nil))))),[3,4])]
def InQ(c:Bc)(d:List Nd)(p3:Nat)(H:List Blk)(v:(Nat->Bool)->Bool)(r:AV)(σ':St):Prop :=
 ∃d' t a,σ'.H=a.set p3 (.cells [.int .i64 (t:Nat)])/\p3<a.length/\BX c H d' a/\zi d d'/\t<d'.length/\∀b,evD d' b t=v b
def qgx{c d H T}(h:BX c H d H){p lv}(E:PB p lv c)(e)(r:qi1 p e){p1 p2 p3}(b1:H[p1]?=some (.cells [.ptr c.B 0]))(b2:H[p2]?=some (.cells (qo e))){x}(b3:H[p3]?=some (.cells [x]))(i:p3≠c.B)(h1:p1≠c.B):
 qh prog (XG c) 184 [.ptr p1 0,.ptr p2 0,.ptr p3 0] ⟨H,T⟩ (InQ c d p3 H fun b=>!decide (yi (ke p.vars (Zi p.vars lv b)) e=0)):=by
 refine qFE ⟨false,qnW,[],[]⟩ func184 ?_;have f:=fun T=>qqX E e r d H T h
 rw[qd e]at b2 f;simp;rw[qG rfl];simp[*,qX];refine⟨qFJ (f T) ?_,qFJ (f T) ?_⟩
 all_goals
  rintro v ⟨G,J⟩ ⟨F,W,rfl,g,w,u,z⟩;have m:=h.call g;have c1:=g.loc b1 h1;have c3:=g.loc b3 i;simp[qX,c1];refine qFJ (QJ m.self u) ?_;rintro v ⟨y,I⟩ ⟨s,t,rfl,j,C,D,l⟩;dsimp only at l;have A:=m.call j;have a:=j.loc c3 i;have o:=(qBk.1 a).1;dsimp only at a o;simp[qX,a];refine⟨s,t,y,rfl,o,A,w.trans C,D,fun b=>?_⟩;rw[l,Qc];have:=z b;unfold z7 at this;rw[this]
def qn0:List (Nat×Sch×List Nat):=[(8,.step 0 [7,6,5,3,2,1] (.step 1 [7,6,5,3,2] (.step 2 [7,6,5,3] (.step 3 [7,6,5] (.fork (.cons 4 (.step 5 [7,6] (.step 6 [7] (.step 7 [] (.done)))) (.cons 5 (.step 4 [7,6] (.step 6 [7] (.step 7 [] (.done)))) (.nil))))))),[])]
def qAw(d:List Nd)(H:List Blk)(v:(Nat->Bool)->Bool)(r:AV)(σ':St):Prop :=
 KpL [] H σ'.H/\(r=.tup [.agg [.sl 0 [] .nil],.int .i64 0,.int .i64 2] \/
  ∃d' t tok,r=.tup [.agg [.sl 3 (d'.map qU) tok],.int .i64 (t:Nat),.int .i64 0]/\zi d d'/\DagOk d'/\t<d'.length/\∀b,evD d' b t=v b)
def qAK(B p3:Nat)(d:List Nd)(E:List Blk)(v:(Nat->Bool)->Bool)(r:AV)(σ':St):Prop :=
 KpL [B,p3] E σ'.H/\(r=.int .i64 2\/(r=.int .i64 0/\∃d' t tok rest,σ'.H[p3]?=some (.cells [.int .i64 (t:Nat)])/\σ'.H[B]?=some (.cells (.sl 3 (d'.map qU) tok::rest))/\zi d d'/\DagOk d'/\t<d'.length/\∀b,evD d' b t=v b))
def qwj{d}(hd:DagOk d){p}{h:List Int}(L:h.length=p.vars.length)(N:p.vars.length<=1000)(V:∀v∈p.vars,jS v=0)(Y:(p.vars.map (·.name)).Nodup)
 (X:∀(i:Nat) (v:Var) (l:Int),p.vars[i]?=some v->h[i]?=some l->v.mode≠0->0<=l/\l+v.width<=20) {E B M p1 p2 p3 e x val}
 (A:E[B]?=some (.cells (.sl 3 (d.map qU) .none::(qw p++[.sl 1 (h.map qf) .none,.map M])))) (D:E[M]?=some (v8 p.vars)) (Z:M≠B)
 (b1:E[p1]?=some (.cells [.ptr B 0])) (b2:E[p2]?=some (.cells (qo e))) (b3:E[p3]?=some (.cells [x])) (h1:p1≠B) (h3:p3≠B) (S:qi1 p e)
 (K:∀b,(!decide (yi (ke p.vars (Zi p.vars h b)) e=0))=val b) (T):
 qh prog GG 183 [.fn 184 [] [.ptr p1 0,.ptr p2 0,.ptr p3 0]] ⟨E,T⟩ (qAK B p3 d E val):=by
 obtain⟨a,m⟩:∃a,a=E++[Blk.cells [.int .i64 0]]:=⟨_,rfl⟩;obtain⟨c,o⟩:∃c:Bc,c=⟨B,M,qw p++[.sl 1 (h.map qf) .none,.map M],v8 p.vars,a⟩:=⟨_,rfl⟩;have g:c.B=B:=by rw[o]
 have y:c.M=M:=by rw[o]
 have F:c.rest=qw p++[.sl 1 (h.map qf) .none,.map c.M]:=by rw[o]
 have z:c.mp=v8 p.vars:=by rw[o]
 have u:c.H0=a:=by rw[o]
 have a2:=(qBk.1 A).1;have a1:=(qBk.1 D).1;have a4:=(qBk.1 b3).1;have a3:a.length=E.length+1:=by rw[m];simp
 have la:∀{k:Nat} {x:Blk},E[k]?=some x->a[k]?=some x:=fun {k x} r=>by rw[m];exact qa r _
 have J:a[E.length]?=some (.cells [.int .i64 0]):=by rw[m];simp
 have U:BX c a d a:=⟨⟨.none,by rw[g,F,y];exact la A⟩,by rw[y,z];exact la D,hd,by rw[u];exact qGd,qGd,by rw[y,g];exact Z,by omega,by omega,by rw[u];exact qBs _⟩;have I:=qgx (T:=T) U (⟨F,z,L,N,V,Y,X⟩) e S (p1:=p1) (p2:=p2) (p3:=p3) (by rw[g];exact la b1) (la b2) (la b3) (by omega) (by omega);simp only[K]at I;have C:∀{bs:List Nat} {w:List Blk},KpL bs a w->KpL bs E w:=fun {bs w} f=>KpL.trans (by rw[m];exact qGe) f
 refine qiL (G:=qW GG) (H:=XG c) rfl (R:=InQ c d p3 a fun b=>val b) (by rw[show(St.push ⟨E,T⟩ (.cells [.int .i64 0]))=⟨a,T⟩ by rw[m];rfl];exact I) ?_ ?_
 . rintro v ⟨W,Q⟩ ⟨d',t,H1,j,a0,s,P,O,hv⟩;dsimp only at j;have r:=s.kp.2 _ _ J (by simp;omega);obtain⟨tok,hb⟩:=s.b;rw[g]at hb;refine⟨⟨_,by dsimp only;rw[j,qBn (by omega)];exact r⟩,?_,.inr ⟨rfl,d',t,tok,c.rest,?_,?_,P,s.ok,O,hv⟩⟩
   . dsimp only;rw[j];have h1:=C s.kp;rw[g]at h1;exact(((h1.sub (by simp)).trans (qGf (by simp))).setF (qBs _)).trans qGe
   . dsimp only;rw[j];refine qa ?_ _;rw[qBn (by omega)];exact qBo a0
   dsimp only;rw[j];refine qa ?_ _
   rwa[qBn (by omega),qBn (by omega)]
 rintro cs ⟨W,Q⟩ ⟨rfl,f⟩;dsimp only at f⊢;rw[u,g]at f;have r:=f.2 _ _ J (by simp;omega);refine⟨⟨_,r⟩,2,rfl,?_,.inl rfl⟩;exact(((C f).sub (by simp)).setF (qBs _)).trans qGe
def qpD(d)(hd:DagOk d)(p)(h:VQ p)(m:qg p=0)(e)(f:zz p.vars e=0)(A:ZK e)(H T):
 qh prog GG 135 [.agg (z6 d),.agg (qw p),.agg (qo e)] ⟨H,T⟩ (qAw d H fun b=>!decide (yi (ke p.vars (Zi p.vars (qS p) b)) e=0)):=by
 refine qFE ⟨false,qn0,[],[]⟩ func135 ?_;have l:=fun H T=>qm8 d hd p h m e f A H T
 obtain⟨y,a1⟩:=VZ f A;have s:=qd e;simp only[z6]at l;rw[s]at l⊢;obtain⟨val,o⟩:∃val:(Nat->Bool)->Bool,∀b,(!decide (yi (ke p.vars (Zi p.vars (qS p) b)) e=0))=val b:=⟨_,fun _=>rfl⟩;simp only[o];have N:=fun {c:Bc} {H:List Blk} {T:List (Option Nat)} (hx:BX c H d H) (Y:PB p (qS p) c) {p1 p2 p3:Nat} (b1:H[p1]?=some (.cells [.ptr c.B 0])) (b2:H[p2]?=some (.cells (qo e))) {x:AV} (b3:H[p3]?=some (.cells [x])) (Q:p3≠c.B) (h1:p1≠c.B)=>qgx (T:=T) hx Y e y b1 b2 b3 Q h1
 simp only[o]at N;have U:=zJ m;have W:=y8 m;have G:=kR p;have V:=qkQ m;have J:=h.vars;generalize L:qS p=LV at *;simp only[qw]at l;simp;refine qFJ (l _ _) ?_;rintro v ⟨a,D⟩ ⟨B,M,rfl,I,F,Z,g,i,r⟩;rw[L]at i;dsimp only at g i r;simp;have a2:=(qBk.1 i).1;have a0:=(qBk.1 r).1;have a3:=g.1;have K:a[H.length+2]?=some (.cells (qo e)):=by
  refine g.2 _ _ ?_ (by simp);rw[s];exact lk2
 simp at I F;refine qFJ (qwj hd G J U W V (E:=a++[.cells [.ptr B 0],.cells [.int .i64 0]]) (B:=B) (M:=M) (p1:=a.length) (p2:=H.length+2) (p3:=a.length+1) (qa i _) (qa r _) Z lk0 (qa K _) lk1 (by omega) (by omega) y o D) ?_;rintro v ⟨z,T2⟩ ⟨j,O⟩;have X:=j.2 _ _ (qa (g.2 _ _ lk3 (by simp)) _) (by simp;omega);have a4:=(qBk.1 X).1;have u:KpL [] H z:=⟨by have:=j.1;simp at this;omega,fun k x f _=>by
  have a6:=(qBk.1 f).1;exact j.2 _ _ (qa (g.2 _ _ (qa f _) (by simp)) _) (by simp;omega)⟩
 rcases O with rfl|⟨rfl,w,t,tok,rest,S,q2,P,q4,R,C⟩
 . simp[*,-getElem?_pos,qV,zt];exact⟨u.setF (by omega),.inl rfl⟩
 have c9:=j.2 _ _ (lk0 (H:=a) (p:=Blk.cells [.ptr B 0]) (t:=[.cells [.int .i64 0]])) (by simp;omega);simp;rw[qG rfl];simp[*,-getElem?_pos,qX];have a5:(z.set (H.length+3) (.cells [.sl 3 (w.map qU) tok]))[a.length+1]?=some (.cells [.int .i64 (t:Int)]):=by
  rw[qBn (by omega)];exact S
 simp[*];exact⟨u.setF (by omega),.inr ⟨w,t,tok,rfl,P,q4,R,C⟩⟩
def qiG{p e a}(hb:qi1 p e)(j:a.length=p.vars.length)(c:(p.vars.map (·.name)).Nodup):jC (ke p.vars a) e=true:=by
 unfold jC;rw[qBx];intro x d;obtain⟨h1,m,r,h2,_⟩:=hb x d;unfold qiM;by_cases h:x.op=2
 . have b:=h2 h;unfold wK at b;rw[qBM]at b;obtain⟨v,l,g⟩:=b;obtain⟨i,hi⟩:=qB1 l;have o:=(qBk.1 hi).1;obtain⟨y,f⟩:∃y,a[i]?=some y:=⟨_,qBm (by omega)⟩;have:=Qw c hi f;unfold ke;rw[if_pos h,if_pos j,<- show v.name=x.name by simpa using g,this];rfl
 rw[if_neg h,if_neg (by omega)]
def qoS{p:Problem}{e a}(b:zz p.vars e=0)(c:ZK e)(f:a.length=p.vars.length)(d:(p.vars.map (·.name)).Nodup):evalV (ke p.vars a) e=yi (ke p.vars a) e:=by
 obtain⟨h1,h2⟩:=VZ b c;unfold evalV;rw[if_pos ⟨h2,qiG h1 f d⟩]
def qAL(H:List Blk)(v:(Nat->Bool)->Bool)(r:AV)(σ':St):Prop :=
 KpL [] H σ'.H/\(r=.tup [.agg [.sl 0 [] .nil],.int .i64 0,.int .i64 2] \/
  ∃d t tok,r=.tup [.agg [.sl 3 (d.map qU) tok],.int .i64 (t:Nat),.int .i64 0]/\DagOk d/\t<d.length/\∀b,evD d b t=v b)
def qlD:DagOk [(20,0,0),(20,1,1)]:=⟨by simp,by simp,rfl,rfl,fun i n h hi=>by
 have:=(qBk.1 hi).1;simp at this;omega,by simp⟩
def qwJ(p)(h:VQ p)(hv:qg p=0)(l)(hf:l.length<=1000000)(r:∀e∈l,zz p.vars e=0/\ZK e)(H T):
 qh prog GG 95 [.agg (qw p),.sl 4 (l.map qo) .none] ⟨H,T⟩ (qAL H fun b=>yX p.vars l (Zi p.vars (qS p) b)):=by
 refine qFF func95 ?_;have c0:=y8 hv;have b1:=kR p;obtain⟨val,S⟩:∃val:Ex->(Nat->Bool)->Bool,∀e b,(!decide (yi (ke p.vars (Zi p.vars (qS p) b)) e=0))=val e b:=⟨_,fun _ _=>rfl⟩;have b8:∀b,yX p.vars l (Zi p.vars (qS p) b)=l.all fun e=>val e b:=fun b=>by
  unfold yX;apply qCo.2;rw[qBx,qBx];refine forall_congr' fun e=>imp_congr_right fun c=>?_
  rw[qoS (r e c).1 (r e c).2 (Ka b1 b) c0,<- S];simp
 simp only[b8];have L:=fun d (hd:DagOk d) e (c:e∈l) H T=>qpD d hd p h hv e (r e c).1 (r e c).2 H T
 simp only[S]at L;simp only[qw,z6]at L;have a0:=qqa;simp only[z6]at a0;simp;refine qFG a0 ?_ rfl;simp;refine qFW l (fun j ev σ=>ev 1=.sl 4 (l.map qo) .none/\ev 2=.ptr H.length 0/\ev 4=.ptr (H.length+1) 0/\ev 7=.ptr (H.length+2) 0/\ev 15=.sl 4 (l.map qo) .none/\ev 16=.int .i64 l.length/\ev 17=.int .i64 j.length /\
  KpL [] H σ.H/\σ.H[H.length]?=some (.cells (qw p))/\σ.H[H.length+1]?=some (.cells [.sl 0 [] .nil])/\∃d t tok,ev 8=.int .i64 (t:Nat)/\σ.H[H.length+2]?=some (.cells [.sl 3 (d.map qU) tok])/\DagOk d/\t<d.length/\∀b,evD d b t=j.all fun e=>val e b) ?_ ?_ ?_
 . refine⟨by simp,by simp,by simp,by simp,by simp,by simp,by simp,qGe,?_,?_,[(20,0,0),(20,1,1)],1,.none,by simp,?_,qlD,by simp,fun b=>qeZ qlD b⟩
   . exact lk0
   . exact lk1
   . exact lk2
 . rintro j e rest ev ⟨A,T1⟩ R hR hd Z c2 ⟨Y,E,D,u,J,G,P,B,i,b4,d,t,tok,W,o,z,s,I⟩;dsimp only at B i b4 o;have c1:=qBl Z;have a3:=wr (n:=(j.length:Int)+1);have a2:=fun H T=>(L d z e c1 H T)
   have X:=qd e;rw[X]at a2;have c3:=(qBk.1 o).1;have b5:=(qBk.1 b4).1;simp only[qw]at i;simp[E,u,J,G,P,show(j.length:Int)<l.length by omega,Z,X,qa o,qa i];refine qFJ ((a2 _ _).leq (args:=[.agg [.sl 3 (d.map qU) tok],_,_]) (by simp[zl,Leq,qFP])) ?_;rintro v ⟨a,T2⟩ ⟨C,hr⟩;dsimp only at C;have up:∀{k:Nat} {x:Blk},A[k]?=some x->a[k]?=some x:=fun {k x} O=>C.2 _ _ (qa O _) (by simp)
   have F:=B.trans (qGe.trans C);have c4:=up b4;have N:=(qBk.1 c4).1;rcases hr with rfl|⟨g,f,U,rfl,a1,b0,b2,b9⟩
   . simp[D,qV,zt,qa c4,kF c4];have:(a.set (H.length+1) (.cells [.sl 0 [] .nil])++[.cells [.sl 0 [] .nil]])[H.length+1]?=some (.cells [.sl 0 [] .nil]):=qa (qBo N) _;simp[this];exact⟨(F.setF (by omega)).trans qGe,.inl rfl⟩
   simp[W];refine qFJ ((qqF g b0 t f (qBD s a1.len) b2 _ _).leq (args:=[.agg [.sl 3 (g.map qU) U],.int .i64 t,.int .i64 f]) (by simp[zl,Leq,qFP])) ?_;rintro v ⟨m,T3⟩ ⟨w,a6⟩;dsimp only at w;have K:∀{k:Nat} {x:Blk},A[k]?=some x->m[k]?=some x:=fun {k x} O=>w.2 _ _ (qa (up O) _) (by simp)
   have Q:=F.trans (qGe.trans w);have M:=w.2 _ _ (lk0 (H:=a) (p:=Blk.cells [.sl 3 (g.map qU) U]) (t:=[])) (by simp);have a8:=(qBk.1 M).1;have c5:=F.1;have c4:=K b4;have V:=K o;have cP:=K i;have N:=(qBk.1 c4).1;have c6:A.length<=a.length:=(by have:=C.1;simp at this;omega);rcases a6 with rfl|⟨d3,i3,t3,rfl,g3,a9,a7,_,a4⟩
   . have a5:∀y,(m.set a.length y)[H.length+1]?=some (.cells [.sl 0 [] .nil]):=fun y=>by rw[qBn (by omega)];exact c4
     simp[D,M,qV,zt,a5];have:∀y,((m.set a.length y).set (H.length+1) (.cells [.sl 0 [] .nil]))[H.length+1]?=some (.cells [.sl 0 [] .nil]):=fun y=>qBo (by simpa using N)
     simp[this];exact⟨(Q.setF (by omega)).setF (by omega),.inl rfl⟩
   have b6:∀y,(m.set a.length y)[H.length+2]?=some (.cells [.sl 3 (d.map qU) tok]):=fun y=>by rw[qBn (by omega)];exact V
   simp[u,P,M,b6,show ∀y,(m.set a.length y)[a.length]?=some y from fun y=>qBo a8,a3];refine hR _ _ ⟨by simp[Y],by simp[E],by simp[D],by simp[u],by simp[J],by simp[G],by simp,(Q.setF (by omega)).setF (by omega),?_,?_,d3,i3,_,by simp,qBo (by simp;have:=(qBk.1 V).1;omega),a9,a7,fun b=>?_⟩
   . rw[qBn (by omega),qBn (by omega)];exact cP
   . rw[qBn (by omega),qBn (by omega)];exact c4
   rw[a4];show(evD g b t&&evD g b f)=_;rw[a1.ev z b s,I,b9,qCU];simp
 rintro ev ⟨A,T1⟩ ⟨Y,E,D,u,J,G,P,B,i,b4,d,t,tok,W,o,z,s,I⟩;have b5:=(qBk.1 b4).1;simp[*,-getElem?_pos];exact⟨B.setF (by omega),.inr ⟨d,t,tok,rfl,z,s,I⟩⟩
def qAd(p:Problem)(H:List Blk)(r:AV)(σ':St):Prop:=KpL [] H σ'.H/\((zw p=[]/\r=.sl 4 [] .tight)\/∃b,zw p≠[]/\r=.ms b 0 (zw p).length 4/\σ'.H[b]?=some (.cells ((zw p).flatMap qo))/\H.length<=b)
def qAq{α:Type}{H:List α}{p q:α}:(H++[p,q])[H.length+1]?=some q:=by rw[qBt (by omega),qCt];rfl
def quD(b N k)(h:k<N):zm (.ms b 0 N 4) (some (.int .i64 (k:Int))) none none=some (.ms b (k*4) (N-k) 4):=by
 show(if(0:Int)<=k/\(k:Int)<=N/\(N:Int)<=N/\((k:Int)=0\/(k:Int)<N) then some (AV.ms b (0+(k:Int).toNat*4) ((N:Int).toNat-(k:Int).toNat) 4) else if(k:Int)=N/\(N:Int)=N then some (.sl 4 [] .none) else none)=_;rw[if_pos ⟨by omega,by omega,by omega,by omega⟩];simp
def qrv(b N)(h:0<N):zm (.ms b 0 N 4) (some (.int .i64 (N:Int))) none none=some (.sl 4 [] .none):=by
 show(if(0:Int)<=N/\(N:Int)<=N/\(N:Int)<=N/\((N:Int)=0\/(N:Int)<N) then some (AV.ms b (0+(N:Int).toNat*4) ((N:Int).toNat-(N:Int).toNat) 4) else if(N:Int)=N/\(N:Int)=N then some (.sl 4 [] .none) else none)=_;rw[if_neg (by omega),if_pos ⟨rfl,rfl⟩]
def VV(p)(h:VQ p)(hd:p.dists.length<=10000)(H T):qh prog GG 51 [.agg (qw p)] ⟨H,T⟩ (qAd p H):=by
 refine qFE ⟨true,[],[],[]⟩ func51 ?_;have b:=J6 p h hd;have P:=h.hard;have O:(jB p).length<=10000:=by
  unfold jB;split
  . simp[yJ,hd]
  simp
 have g:zw p=p.hard++jB p:=rfl;generalize jB p=S at *;obtain⟨Q,m⟩:∃Q,Q=qAd p H:=⟨_,rfl⟩;rw[<- m];have w:p.hard++S=[]->∀u T',Q (.sl 4 [] .tight) ⟨H++u,T'⟩:=fun i u T'=>by rw[m];exact⟨qGe,.inl ⟨by rw[g,i],rfl⟩⟩
 have kw:p.hard++S≠[]->∀(a:Blk) (T':List (Option Nat)),Q (.ms (H.length+1) 0 (p.hard.length+S.length) 4) ⟨H++[a,.cells ((p.hard++S).flatMap qo)],T'⟩:=fun i a T'=>by
  rw[m];refine⟨qGe,.inr ⟨H.length+1,by rw[g];exact i,by rw[g,qBp],?_,by omega⟩⟩;rw[g];exact qAq
 simp only[qw]at b;have d:=wr (n:=(p.hard.length:Int)+S.length);by_cases h0:p.hard=[]/\S=[]
 . obtain⟨h1,h2⟩:=h0;subst h2;have w:=w (by rw[h1];rfl);rw[h1]at b d;simp[h1];refine qFG b ?_;simp[show IntKind.i64.wrap 0=0 by decide,mkX,qz,kh,VY,zm,zM,yp,zH];exact w _ _
 have G:0<p.hard.length+S.length:=by
  rcases qCI (p.hard.length+S.length) with h|h
  . exact absurd ⟨qBy (by omega),qBy (by omega)⟩ h0
  exact h
 have A:p.hard++S≠[]:=by simpa using h0
 have kw:=kw A;have r:¬(p.hard.length:Int)+S.length=0:=by omega
 have o:(p.hard.length:Int)+S.length<=549755813888:=by omega
 have t:(0:Int)<=(p.hard.length:Int)+S.length:=by omega
 have E:((p.hard.length:Int)+S.length).toNat=p.hard.length+S.length:=by omega
 have l:∀σ:St,mkX (Dof prog) true σ 23 (.int .i64 ((p.hard.length:Int)+S.length)) (.int .i64 ((p.hard.length:Int)+S.length))=none:=fun σ=>by
  have:∀z:Int,z≠0->mkX (Dof prog) true σ 23 (.int .i64 z) (.int .i64 z)=none:=fun z I=>by
   unfold mkX;split
   . rename_i h1 _;simp at h1;exact absurd h1.2 I
   rfl
  exact this _ r
 obtain⟨Z,f⟩:∃Z,Z=(List.replicate (p.hard.length+S.length) [AV.int .i64 0,.int .i64 0,.str [],.sl 0 [] .nil]).flatten:=⟨_,rfl⟩;have e:Z.length=(p.hard.length+S.length)*4:=by rw[f];simp
 have v:=Go.Abs.zZ (sz:=4) zg p.hard;have h2:=qcw (p.hard.flatMap qo) (S.flatMap qo) Z (by rw[e,v,Go.Abs.zZ (sz:=4) zg S,qCx]);rw[v,<- List.flatMap_append]at h2;have B:∀(a C D:Blk),(H++[a,C]).set (H.length+1) D=H++[a,D]:=fun a C D=>by rw[qCd _ _ (by omega),qCt];rfl
 have c:∀a:Blk,kh (Dof prog) ⟨H++[a,.cells Z],T⟩ 23 (.ms (H.length+1) 0 (p.hard.length+S.length) 4) (.sl 4 (p.hard.map qo) .none)=some (.int .i64 p.hard.length,⟨H++[a,.cells (zC Z 0 (p.hard.flatMap qo))],T⟩):=fun a=>by
  by_cases x:p.hard=[]
  . simp[kh,VY,x,zC]
  have L:min p.hard.length (p.hard.length+S.length)=p.hard.length:=by omega
  have K:p.hard.length*4<=(p.hard.length+S.length)*4:=by omega
  simp[kh,VY,qnF,L,x,show(p.hard.map qo).take p.hard.length=p.hard.map qo from qBr (by simp),show(p.hard.map qo).flatten=p.hard.flatMap qo by rw[qCQ],e,K,B]
 by_cases s:S=[]
 . subst s;have y:0<p.hard.length:=(by simpa using G);have j:=qrv (H.length+1) p.hard.length y;have F:zC Z 0 (p.hard.flatMap qo)=p.hard.flatMap qo:=putAt_all _ _ (by rw[e,v];simp);rw[F]at c;simp only[qCc,qCV,qDK,Int.add_zero]at d r o t E f c l;simp only[qBS]at b;simp only[qB4,qCc,qCV]at kw;generalize p.hard.flatMap qo=J at *;simp;refine qFG b ?_;simp[d,o,t,qBA.1 y,l,qz,<- f,c,j,show ∀σ:St,kh (Dof prog) σ 23 (.sl 4 [] .none) (.sl 4 [] .none)=some (.int .i64 0,σ) from fun σ=>by simp[kh,VY]];exact kw _ _
 have N:=qBA.2 s;have j:zm (.ms (H.length+1) 0 (p.hard.length+S.length) 4) (some (.int .i64 p.hard.length)) none none=some (.ms (H.length+1) (p.hard.length*4) S.length 4):=by
  rw[quD _ _ _ (by omega),show p.hard.length+S.length-p.hard.length=S.length by omega]
 have M:∀a:Blk,kh (Dof prog) ⟨H++[a,.cells (zC Z 0 (p.hard.flatMap qo))],T⟩ 23 (.ms (H.length+1) (p.hard.length*4) S.length 4) (.sl 4 (S.map qo) .none)=some (.int .i64 S.length,⟨H++[a,.cells ((p.hard++S).flatMap qo)],T⟩):=fun a=>by
  simp[kh,VY,qnF,s,show(S.map qo).take S.length=S.map qo from qBr (by simp),show(S.map qo).flatten=S.flatMap qo by rw[qCQ],show(zC Z 0 (p.hard.flatMap qo)).length=(p.hard.length+S.length)*4 by rw[KT,e],show p.hard.length*4+S.length*4<=(p.hard.length+S.length)*4 by omega,-List.flatMap_append,h2,B]
 generalize (p.hard++S).flatMap qo=J at *;generalize zC Z 0 (p.hard.flatMap qo)=U at *;generalize p.hard++S=R at *;simp;refine qFG b ?_;simp[d,r,o,t,l,qz,E,<- f,c,j,M];exact kw A _ _
def qbb{α:Type}{sz:Nat}{en:α->List AV}(b:∀x,(en x).length=sz):∀{l:List α}{i:Nat}{v:α},l[i]?=some v->((l.flatMap en).drop (i*sz)).take sz=en v
 |[],i,v,h=>by simp at h
 | a::r,0,v,h=>by
  simp at h;subst h;rw[qBJ,qDa,qCG,qCv (by rw[b];exact qBs _),qBr (by rw[b];exact qBs _)]
 | a::r,i+1,v,h=>by
  have ih:=qbb b (l:=r) (i:=i) (v:=v) (by simpa using h);have e:(i+1)*sz=sz+i*sz:=by rw[qEb,qDn]
  rw[qBJ,e,qDd,qBZ (by rw[b];omega),b,qBL,qCt,ih]
def qqQ(b:Nat)(H:List Blk)(v:AV)(l:List Ex):Prop:=(l=[]/\v=.sl 4 [] .tight)\/(l≠[]/\v=.ms b 0 l.length 4/\H[b]?=some (.cells (l.flatMap qo)))
def qqQ.append{b H T v l}(h:qqQ b H v l)(x)(g:l.length<=1000000):
 ∃H',qY (Dof prog) ⟨H,T⟩ 23 23 v (.sl 4 [qo x] .tight)=some (.ms H.length 0 (l.length+1) 4,⟨H',T⟩)/\qqQ H.length H' (.ms H.length 0 (l.length+1) 4) (l++[x])/\(∀(k) (y),H[k]?=some y->(l=[]\/k≠b)->H'[k]?=some y)/\H.length<=H'.length:=by
 rcases h with⟨rfl,rfl⟩|⟨e,rfl,hb⟩
 . refine⟨H++[.cells (qo x)],?_,?_,fun k y a _=>qa a _,by simp⟩
   . simp[qY,zD,Zl,qP]
   . exact .inr ⟨by simp,by simp⟩
 have h1:l.length+1<=549755813888:=by omega
 have f:=Go.Abs.zZ (sz:=4) zg l;have d:l.length*4<=(l.flatMap qo).length:=by omega
 refine⟨H.set b .dead++[.cells (l.flatMap qo++qo x)],?_,?_,fun k y a c=>?_,by simp⟩
 . rw[f]at d;simp[*,qY,zD,Zl,qP,show(l.flatMap qo).take (l.length*4)=l.flatMap qo from qBr (by omega)]
 . exact .inr ⟨by simp,by simp⟩
 exact qa (by rw[qBn (Ne.symm (c.resolve_left e))];exact a) _
def qqQ.len{b H v l}(h:qqQ b H v l)(σ):Yk (Dof prog) σ 23 v=some (.int .i64 (l.length:Nat)):=by
 rcases h with⟨rfl,rfl⟩|⟨_,rfl,_⟩<;>simp
def Wg(vs):∀(L) (R),∀q∈jY vs R L,q∈L
 |[],R,q,h=>by simp[jY]at h
 | x::r,R,q,h=>by
  unfold jY at h;split at h
  . rcases qBN.1 h with rfl|h
    . simp
    . exact qCE _ (Wg vs r _ q h)
  exact qCE _ (Wg vs r _ q h)
def Wh(vs):∀(L) (R),(jY vs R L).length<=L.length
 |[],R=>by simp[jY]
 | x::r,R=>by
  unfold jY;split
  . have:=Wh vs r (R++[x.2]);simp;omega
  have:=Wh vs r R;simp;omega
def qoa{l q}(h:q∈ZB l):∃k:Nat,q.1=k/\l[k]?=some q.2:=by
 obtain⟨k,b⟩:=qB1 h;obtain⟨_,h2,a⟩:=qez b;exact⟨_,h2,a⟩
def qeG{p q}(h:q∈vS p):∃k:Nat,q.1=k/\p.soft[k]?=some q.2:=qoa (Wg _ _ _ q (by simpa[vS] using h))
def qa6(p):(vS p).length<=p.soft.length:=by
 unfold vS;rw[qEx];exact qCq (Wh _ _ _) (by rw[qaV];exact qBs _)
noncomputable def qt(p:Problem):List Ex×Int :=
 if qg p=0 then(if jw p.vars (zw p)=true then(Yf p,0) else([],11)) else([],1)
def wT(p):(qt p).2=(yW p).2:=by
 unfold qt yW;split
 . split<;>rfl
 rfl
def Qg{p}(h:(yW p).2=0):qg p=0/\jw p.vars (zw p)=true/\qt p=(zw p++(vS p).map (·.2),0)/\(yW p).1=(vS p).map (·.1):=by
 unfold yW at h;split at h
 . rename_i a;split at h
   . rename_i b;have c:zw p=qeB p:=by
      show p.hard++jB p=_;rw[jB,if_pos a];rfl
     refine⟨a,b,?_,?_⟩
     . unfold qt Yf;rw[if_pos a,if_pos b,c]
     unfold yW vS;rw[if_pos a,if_pos b,c]
   simp at h
 simp at h
def WU(p)(h:VQ p)(a8:p.vars.length<=20)(hb:kj p.vars (qI p)<=18)(hd:p.dists.length<=10000)(b7:p.soft.length<=10000):
 Pure prog GG 21 [.agg (qw p)] (.tup [.sl 4 ((qt p).1.map qo) .none,.int .i64 (qt p).2]):=by
 have r:=qmw p h a8 hb hd b7;by_cases m:(yW p).2=0
 case neg=>
  have a7:=wT p;have b0:(qt p).1=[]:=by
   unfold qt yW at *;split
   . rename_i I;split
     . rename_i Z;rw[if_pos I,if_pos Z]at m;exact absurd rfl m
     rfl
   rfl
  rw[b0,a7];refine qFC o0 true func21 ?_;simp at r;simp;refine qFG r ?_;simp[m];rw[ql (by simp)];exact⟨by simp,by simp[Leq,zl]⟩
 obtain⟨I,Z,b5,P⟩:=Qg m;rw[P,m]at r;rw[b5];dsimp only;have d1:=qa6 p;have a1:=fun q (Q:q∈vS p)=>qeG Q
 generalize d2:vS p=s at *;refine qFC ⟨true,[],[],[]⟩ true func21 ?_;have a5:=VV p h hd [.cells (qw p)] [];have a2:=Qp h I;have h1:=h.hard;have h2:(jB p).length<=10000:=by
  have:jB p=yJ p:=if_pos I
  rwa[this,yJ,qBT]
 have c9:(zw p).length<=20000:=by rw[zw,qBp];omega
 obtain⟨a,E⟩:∃a,a=zw p++s.map (·.2):=⟨_,rfl⟩;have b8:∀e∈a,(pre e).length<=100000:=fun e l=>by
  rw[E]at l;rcases qBC.1 l with l|l
  . exact(a2 e (qB5 _ l)).2.2.2
  obtain⟨q,Q,rfl⟩:=qBH.1 l;obtain⟨k,_,z⟩:=a1 q Q;exact(a2 q.2 (qCu _ (qBl z))).2.2.2
 rw[<- E];simp at r a5;simp;refine qFG r ?_;simp;refine qFJ a5 ?_;rintro v ⟨M,T1⟩ ⟨z,hr⟩;have i:M[0]?=some (.cells (qw p)):=z.2 0 _ (by simp[qw]) (by simp);obtain⟨b,c,G⟩:∃b,qqQ b M v (zw p)/\b≠0:=by
  rcases hr with⟨hn,rfl⟩|⟨b,t,rfl,b2,b4⟩
  . exact⟨1,.inl ⟨hn,rfl⟩,by omega⟩
  exact⟨b,.inr ⟨t,rfl,b2⟩,by simp at b4;omega⟩
 clear hr z;generalize zw p=N at *;simp;refine qFW s (fun d ev σ=>ev 1=.ptr 0 0/\ev 20=.sl 1 (s.map fun q=>[AV.int .i64 q.1]) .none/\ev 21=.int .i64 s.length/\ev 22=.int .i64 d.length/\∃H b T,σ=⟨H,T⟩/\H[0]?=some (.cells (qw p))/\b≠0/\qqQ b H (ev 6) (N++d.map (·.2))) ?_ ?_ ?_
 . refine⟨by simp,by simp,by simp,by simp,M,b,T1,rfl,i,G,by simpa using c⟩
 . rintro d q rest ev σ R V b9 f K ⟨L,W,w,S,H,b,T,rfl,i,G,c⟩;have J:=wr (n:=(d.length:Int)+1);have C:(d.length:Int)<s.length:=(by omega);obtain⟨k,P,a3⟩:=a1 q (qBl f);have c8:=(qBk.1 a3).1;obtain⟨H',b1,c5,c1,a6⟩:=c.append (T:=T) q.2 (by rw[qBp,qBT];omega);have d0:=(qBk.1 i).1;have O:=jq q.2;have y:=zg q.2;have b6:(qo q.2).take 4=qo q.2:=qBr (by rw[y];exact qBs _);have c4:=c1 0 _ i (by right;exact Ne.symm G);simp at i;generalize u:ev 6=U at *;simp[-qL,L,W,w,S,C,f,P,a3,i,b6,O,y,qe,qp,b1,u,J];refine V _ _ ⟨by simp[L],by simp[W],by simp[w],by simp,H',H.length,T,rfl,c4,by omega,?_⟩;rw[show N++(d++[q]).map (·.2)=N++d.map (·.2)++[q.2] by simp];simpa using c5
 rintro ev σ ⟨L,W,w,S,H,b,T,rfl,i,G,c⟩;rw[<- E]at c;have a6:=c.len ⟨H,T⟩;have c7:a.length<=1000000:=by rw[E,qBp,qBT];omega
 generalize u:ev 6=U at *;simp[-Yk,w,S,u,a6];refine qFW a (fun d ev σ=>ev 6=U/\ev 36=.int .i64 a.length/\ev 37=.int .i64 d.length/\∃H T,σ=⟨H,T⟩/\qqQ b H U a) ?_ ?_ ?_
 . exact⟨by simp[u],by simp,by simp,H,T,rfl,c⟩
 . rintro d x rest ev σ R V b9 f K ⟨A,B,D,H,T,rfl,c⟩;have J:=wr (n:=(d.length:Int)+1);have C:(d.length:Int)<a.length:=(by omega);have c6:=qlK x (b8 x (qBl f));rcases c with⟨h0,_⟩|⟨t,rfl,g⟩
   . rw[h0]at f;simp at f
   have a0:=Go.Abs.zZ (sz:=4) zg a;have y:=zg x;have O:=jq x;have c3:zC (a.flatMap qo) (d.length*4) (qo x)=a.flatMap qo:=by
    rw[QP zg a d.length x K];have:a.set d.length x=a:=by
     apply qCg;intro j;by_cases o:d.length=j
     . subst o;rw[qBo K,f]
     rw[qBn o]
    rw[this]
   have c0:((a.flatMap qo).drop (d.length*4)).take 4=qo x:=qbb zg f;have a4:d.length*4+4<=a.length*4:=(by omega);have c2:H.set b (.cells (a.flatMap qo))=H:=by
    apply qCg;intro j;by_cases o:b=j
    . subst o;rw[qBo (qBk.1 g).1,g]
    rw[qBn o]
   generalize a9:a.flatMap qo=F at *;simp[-qL,A,B,D,C,g,a0,a4,c0];refine qFG c6 ?_;simp[-qL,D,C,g,a0,a4,y,O,c3,c2,J];exact V _ _ ⟨by simp[A],by simp[B],by simp,H,T,rfl,.inr ⟨t,rfl,by rw[a9];exact g⟩⟩
 rintro ev σ ⟨A,B,D,H,T,rfl,c⟩;simp[A,B,D];rcases c with⟨h0,rfl⟩|⟨t,rfl,g⟩
 . rw[h0];have Y:frz H 7 (.sl 4 [] .tight)=.sl 4 [] .tight:=ql rfl;exact vA (by rw[Y];rfl) (by rw[Y];simp[Leq]) (by simp[Leq])
 have X:ja b 4 qo H (.ms b 0 a.length 4) a:=.inr ⟨t,rfl,g⟩;exact vA (X.frzNo zg (fun x=>nrE x) z0 6) (X.frz zg (fun x=>nrE x) z0 6) (by simp)
def qAz(l:List Ex)(H:List Blk)(r:AV)(σ':St):Prop:=∃tok,r=.tup [.sl 4 (l.map qo) tok,.int .i64 0]/\(l≠[]\/tok=.tight)/\KpL [] H σ'.H
def qpE(p)(h:VQ p)(f:p.vars.length<=20)(hb:kj p.vars (qI p)<=18)(hd:p.dists.length<=10000)(j:p.soft.length<=10000)(c:(qt p).2=0)(H T):
 qh prog GG 21 [.agg (qw p)] ⟨H,T⟩ (qAz (qt p).1 H):=by
 by_cases a:(qt p).1=[]
 case neg=>
  refine qh.call (WU p h f hb hd j) (by simp) ?_;rw[c];exact⟨.none,rfl,.inl a,qGd⟩
 have e:=qmw p h f hb hd j;rw[wT]at c;obtain⟨J,I,g,A⟩:=Qg c;rw[g]at a;have a:zw p=[]/\vS p=[]:=by simpa using a
 rw[g,a.1,a.2];rw[A,c,a.2]at e;have i:=fun H T=>VV p h hd H T
 refine qFE ⟨true,[],[],[]⟩ func21 ?_;simp only[qw]at e i;simp;refine qFG e ?_;simp;refine qFJ (i _ _) ?_;rintro v ⟨C,B⟩ ⟨t,l⟩;rcases l with⟨_,rfl⟩|⟨b,s,_⟩
 case inr=>exact absurd a.1 s
 simp;refine qFL (fun m ev σ=>ev 6=.sl 4 [] .tight/\ev 21=.int .i64 0/\ev 22=.int .i64 0/\KpL [] H σ.H) 0 ⟨by simp,by simp,by simp,qGe.trans t⟩ ?_;rintro m ev ⟨D,G⟩ R y ⟨d,r,w,u⟩;simp[d,r,w];refine qFL (fun m ev σ=>ev 6=.sl 4 [] .tight/\ev 36=.int .i64 0/\ev 37=.int .i64 0/\KpL [] H σ.H) 0 ⟨by simp[d],by simp,by simp,u⟩ ?_;rintro m ev ⟨F,E⟩ R y ⟨d,z,o,x⟩;simp[d,z,o];exact⟨.tight,rfl,.inr rfl,x⟩
def wru{n}(h0:0<=n)(h1:n<18446744073709551616):IntKind.u64.wrap n=n:=by
 simp[IntKind.wrap,IntKind.bits,IntKind.signed];omega
def qax(n:Nat)(h:n<9223372036854775808):Pure prog GG 285 [.int .i64 n] (.int .u64 n):=by
 refine qFD func285 ?_;have h1:=wru (n:=n) (by omega) (by omega);simp[show ¬(n:Int)<0 by omega,ye,h1]
def qch(n:Nat)(h:n<18446744073709551616):Pure prog GG 286 [.bool false,.int .u64 n] (if n<9223372036854775808 then .tup [.int .i64 n,.int .i64 0] else .tup [.int .i64 0,.int .i64 3]):=by
 refine qFD func286 ?_;by_cases a:n<9223372036854775808
 . have h1:=wr (n:=n);have h2:(n:Int)<9223372036854775808:=(by omega);simp[a,h2,ye,h1]
 have h2:¬(n:Int)<9223372036854775808:=by omega
 simp[a,h2]
def qir:∀(b a:Nat),a<18446744073709551616->b<18446744073709551616->Pure prog GG 325 [.int .u64 a,.int .u64 b] (.int .u64 (Nat.gcd a b:Nat)):=by
 intro b a g hb;refine qFD func325 ?_;simp;refine qFL (fun n ev σ=>∃x y:Nat,n=y/\x<18446744073709551616/\y<18446744073709551616/\ev 0=.int .u64 x/\ev 1=.int .u64 y/\Nat.gcd x y=Nat.gcd a b) b ⟨a,b,rfl,g,hb,by simp⟩ ?_;rintro y ev σ R h ⟨x,_,rfl,e,f,h0,h1,c⟩;by_cases d:y=0
 . subst d;simp at c;simp[h0,h1,c]
 simp[h0,h1,d];refine h (x%y) _ _ (qEi _ (by omega)) ⟨y,x%y,rfl,f,qC3 (Nat.mod_le _ _) e,by simp,by simp[qCr],?_⟩
 rwa[qEZ y,<- Nat.gcd_rec,qEZ]
def qtn(n m:Nat)(h:n%4294967296=m):zV .and .u64 n 4294967295=some (.int .u64 m):=by
 have h1:((BitVec.ofInt 64 n &&& BitVec.ofInt 64 4294967295).toNat:Int)=m:=by
  rw[BitVec.toNat_and,BitVec.toNat_ofInt];rw[show(BitVec.ofInt 64 4294967295).toNat=2^32-1 by decide,qDV];omega
 show some (AV.int .u64 (IntKind.u64.wrap ((BitVec.ofInt 64 n &&& BitVec.ofInt 64 4294967295).toNat:Int)))=_;rw[h1,wru (by omega) (by omega)]
def qjL(n m:Nat)(h:n/4294967296=m):(n:Int).fdiv 4294967296=m:=by
 rw[qDE _ (by omega)];omega
def qwQ(a b c:Nat)(h:a*b=c)(d:c<18446744073709551616):zV .mul .u64 a b=some (.int .u64 c):=by
 show some (AV.int .u64 (IntKind.u64.wrap ((a:Int)*b)))=_;rw[<- Int.natCast_mul,h,wru (by omega) (by omega)]
def qwR(a b c:Nat)(h:a+b=c)(d:c<18446744073709551616):zV .add .u64 a b=some (.int .u64 c):=by
 show some (AV.int .u64 (IntKind.u64.wrap ((a:Int)+b)))=_;rw[<- Int.natCast_add,h,wru (by omega) (by omega)]
def qyi(a b c d:Nat)(h:a*b=18446744073709551616*d+c)(e:c<18446744073709551616):zV .mul .u64 a b=some (.int .u64 c):=by
 show some (AV.int .u64 (IntKind.u64.wrap ((a:Int)*b)))=_;rw[<- Int.natCast_mul,h];simp only[IntKind.wrap,IntKind.bits,IntKind.signed];simp;omega
def qqm(x)(c:x<18446744073709551616):∃a b:Nat,x%4294967296=a/\x/4294967296=b/\x=4294967296*b+a/\a<=4294967295/\b<=4294967295:=⟨_,_,rfl,rfl,by omega,by omega,by omega⟩
def qyv:((2:Int)^min 32 IntKind.u64.bits)=4294967296:=by decide
def qkG(x y hi lo:Nat)(E:x<18446744073709551616)(Y:y<18446744073709551616)(m:x*y=18446744073709551616*hi+lo)(V:lo<18446744073709551616):
 Pure prog GG 284 [.int .u64 x,.int .u64 y] (.tup [.int .u64 hi,.int .u64 lo]):=by
 have M:=qyi x y lo hi m V;have key:∃d a b c f h t j g q r i e u v w:Nat,zV .and .u64 x 4294967295=some (.int .u64 d)/\(x:Int).fdiv 4294967296=a/\zV .and .u64 y 4294967295=some (.int .u64 b)/\(y:Int).fdiv 4294967296=c /\
  zV .mul .u64 d b=some (.int .u64 f)/\zV .mul .u64 a b=some (.int .u64 h)/\(f:Int).fdiv 4294967296=q/\zV .add .u64 h q=some (.int .u64 t)/\zV .and .u64 t 4294967295=some (.int .u64 j)/\(t:Int).fdiv 4294967296=g /\
  zV .mul .u64 d c=some (.int .u64 i)/\zV .add .u64 j i=some (.int .u64 r)/\zV .mul .u64 a c=some (.int .u64 e)/\zV .add .u64 e g=some (.int .u64 u)/\(r:Int).fdiv 4294967296=v/\zV .add .u64 u v=some (.int .u64 hi):=by
  obtain⟨d,a,L,O,K,o,A⟩:=qqm x E;obtain⟨b,c,b1,b2,b3,b4,b5⟩:=qqm y Y;have a6:=qDx A b5;have F:=qDx A b4;have R:=qDx o b5;have Q:=qDx o b4;have l:x*y=18446744073709551616*(a*c)+4294967296*(a*b)+4294967296*(d*c)+d*b:=by
   rw[K,b3,qCx,qEB,qEB,Nat.mul_mul_mul_comm,qFp 4294967296 a b,Nat.mul_left_comm d 4294967296 c];omega
  rw[m]at l;obtain⟨e,s⟩:∃p,a*c=p:=⟨_,rfl⟩;obtain⟨h,z⟩:∃p,a*b=p:=⟨_,rfl⟩;obtain⟨i,B⟩:∃p,d*c=p:=⟨_,rfl⟩;obtain⟨f,C⟩:∃p,d*b=p:=⟨_,rfl⟩;rw[s]at l a6;rw[z]at l F;rw[B]at l R;rw[C]at l Q;obtain⟨q,eq⟩:∃p,f/4294967296=p:=⟨_,rfl⟩;obtain⟨t,U⟩:∃p,h+q=p:=⟨_,rfl⟩;obtain⟨j,a7⟩:∃p,t%4294967296=p:=⟨_,rfl⟩;obtain⟨g,D⟩:∃p,t/4294967296=p:=⟨_,rfl⟩;obtain⟨r,W⟩:∃p,j+i=p:=⟨_,rfl⟩;obtain⟨u,eu⟩:∃p,e+g=p:=⟨_,rfl⟩;obtain⟨v,ev⟩:∃p,r/4294967296=p:=⟨_,rfl⟩;exact⟨d,a,b,c,f,h,t,j,g,q,r,i,e,u,v,0,qtn _ _ L,qjL _ _ O,qtn _ _ b1,qjL _ _ b2,qwQ _ _ _ C (by omega),qwQ _ _ _ z (by omega),qjL _ _ eq,qwR _ _ _ U (by omega),qtn _ _ a7,qjL _ _ D,
   qwQ _ _ _ B (by omega),qwR _ _ _ W (by omega),qwQ _ _ _ s (by omega),qwR _ _ _ eu (by omega),qjL _ _ ev,qwR _ _ _ (by omega) (by omega)⟩
 obtain⟨d,a,b,c,f,h,t,j,g,q,r,i,e,u,v,_,k1,k2,k3,k4,Z,X,P,J,k9,G,N,a0,I,a8,S,T⟩:=key;refine qFD func284 ?_;simp[-zV,qyv,k1,k2,k3,k4,Z,X,P,J,k9,G,N,a0,I,a8,S,T,M]
def Yo(n:Nat):Int×Int:=if n<9223372036854775808 then(n,0) else(0,3)
def qkA(a b:Nat)(i:a<9223372036854775808)(hb:b<9223372036854775808):Pure prog GG 229 [.int .i64 a,.int .i64 b] (.tup [.int .i64 (Yo (a*b)).1,.int .i64 (Yo (a*b)).2]):=by
 obtain⟨hi,lo,e,d⟩:∃hi lo,a*b=18446744073709551616*hi+lo/\lo<18446744073709551616:=⟨_,_,(Nat.div_add_mod _ _).symm,qEi _ (by omega)⟩;have f:=qkG a b hi lo (by omega) (by omega) e d;have m:=qax a i;have j:=qax b hb;have l:=qch lo d;refine qFD func229 ?_;generalize c:Yo (a*b)=r;have f:=qkG a b hi lo (by omega) (by omega) e d;simp;refine qFG m ?_ rfl;simp;refine qFG j ?_ rfl;simp;refine qFG f ?_ rfl;simp;refine⟨fun h0=>?_,fun h0=>?_⟩
 . have g:¬a*b<9223372036854775808:=(by omega);simp[Yo,g]at c;subst c;simp
 have:a*b=lo:=by omega
 simp[show ¬(a:Int)<0 by omega,show ¬(b:Int)<0 by omega];refine qFG l ?_ rfl;rw[this]at c;unfold Yo at c;split at c<;>subst c<;>rename_i h<;>simp[h]
def qvx(a b:Nat)(i:0<a)(hb:0<b)(B:a<9223372036854775808)(o:b<9223372036854775808):Pure prog GG 282 [.int .i64 a,.int .i64 b] (.tup [.int .i64 (Yo (Nat.lcm a b)).1,.int .i64 (Yo (Nat.lcm a b)).2]):=by
 have t:=qE3 b i;have s:=qFq i (qEp a b);have d:a/Nat.gcd a b*b=Nat.lcm a b:=by
  unfold Nat.lcm;exact qFe (qEp a b) b
 have f:a/Nat.gcd a b<=a:=qDr _ _;obtain⟨g,z⟩:∃g,Nat.gcd a b=g:=⟨_,rfl⟩;obtain⟨q,u⟩:∃q,a/g=q:=⟨_,rfl⟩;obtain⟨l,A⟩:∃l,Nat.lcm a b=l:=⟨_,rfl⟩;have hd:=qir b a (by omega) (by omega);rw[z]at t s d f hd;rw[u]at d f;rw[A]at d⊢;obtain⟨hi,lo,D,e⟩:∃hi lo,l=18446744073709551616*hi+lo/\lo<18446744073709551616:=⟨_,_,(Nat.div_add_mod _ _).symm,qEi _ (by omega)⟩;have C:=qkG q b hi lo (by omega) (by omega) (by omega) e;have m:=qax a B;have j:=qax b o;have y:=qch lo e;have w:(a:Int).tdiv g=q:=by
  rw[qCT (by omega)];omega
 have x:=wru (n:=q) (by omega) (by omega);generalize c:Yo l=r;refine qFD func282 ?_;simp[show ¬a=0 by omega,show ¬b=0 by omega];refine qFG m ?_ rfl;simp;refine qFG m ?_ rfl;simp;refine qFG j ?_ rfl;simp;refine qFG hd ?_ rfl;simp[show ¬g=0 by omega,w,x];refine qFG j ?_ rfl;simp;refine qFG C ?_ rfl;simp;refine⟨fun h0=>?_,fun h0=>?_⟩
 . have v:¬l<9223372036854775808:=(by omega);simp[Yo,v]at c;subst c;simp
 have:l=lo:=by omega
 refine qFG y ?_ rfl;rw[this]at c;unfold Yo at c;split at c<;>subst c<;>rename_i h<;>simp[h]
def yx(vs:List Var):List Int:=vs.map (·.value)
def qwA(vs:List Var)(H:List Blk)(r:AV)(σ':St):Prop:=KpL [] H σ'.H/\∃A t,r=Jy A t (yx vs)/\(vs≠[]->σ'.H[A]?=some (.cells (zc (yx vs)))/\H.length<=A)
def qj1(p)(B:p.vars.length<=1000)(H T):qh prog GG 147 [.agg (qw p)] ⟨H,T⟩ (qwA p.vars H):=by
 refine qFF func147 ?_;by_cases a:p.vars=[]
 . have o:∀u T',qwA p.vars H (.sl 1 [] (.chain T.length 0)) ⟨H++u,T'⟩:=fun u T'=>⟨qGe,H.length,T.length,by rw[a];rfl,fun h=>absurd a h⟩
   rw[a]at o;simp[a,qz];refine qFL (fun m ev σ=>ev 3=.sl 1 [] (.chain T.length 0)/\ev 4=.int .i64 0/\∃u T',σ=⟨H++u,T'⟩) 0 ⟨by simp,by simp,_,_,rfl⟩ ?_;rintro m ev σ R r ⟨b,f,u,T',rfl⟩;simp[b,f];exact o u T'
 have A:=qBA.2 a;simp[a,show(p.vars.length:Int)<=549755813888 by omega,qz];refine qFW p.vars (fun d ev σ=>ev 1=.ptr H.length 0/\ev 3=.ms (H.length+1) 0 p.vars.length 1/\ev 4=.int .i64 d.length/\∃e,σ=⟨e,T⟩/\KpL [] H e/\e[H.length]?=some (.cells (qw p))/\e[H.length+1]?=some (.cells (zc (yx d++List.replicate (p.vars.length-d.length) 0)))) ?_ ?_ ?_
 . refine⟨by simp,by simp,by simp,_,rfl,qGe,by simp,?_⟩;simp[yx,zc]
 . rintro d v rest ev σ R r hd x w ⟨i,b,f,e,rfl,j,g,c⟩;have s:=wr (n:=(d.length:Int)+1);have z:List.replicate (p.vars.length-d.length) (0:Int)=0::List.replicate (p.vars.length-(d.length+1)) 0:=by
    rw[show p.vars.length-d.length=(p.vars.length-(d.length+1))+1 by omega,qCK]
   rw[z]at c;have l:(yx d).length=d.length:=(by simp[yx]);have t:(zc (yx d++0::List.replicate (p.vars.length-(d.length+1)) 0)).set d.length (.int .i64 v.value)=zc (yx (d++[v])++List.replicate (p.vars.length-(d.length+1)) 0):=by
    rw[yR,qCd _ _ (by omega),l,qCh];simp[yx]
   have y:=(qBk.1 c).1;simp only[qw]at g;simp[-getElem?_pos,i,b,f,w,x,g,c,show(zc (yx d++0::List.replicate (p.vars.length-(d.length+1)) 0)).length=p.vars.length by rw[qO];simp[l];omega,t,show d.length+1<=p.vars.length by omega,s];refine r _ _ ⟨by simp[i],by simp[b],by simp,_,rfl,j.setF (by omega),?_,?_⟩
   . rw[qBn (by omega)];exact g
   rw[qBp,qBR];exact qBo y
 rintro ev σ ⟨i,b,f,e,rfl,j,g,c⟩;rw[qCh,qDN,qB4]at c;simp[b,f];refine⟨j,H.length+1,0,?_,fun _=>⟨c,by omega⟩⟩;rw[Jy,if_neg (by simpa[yx] using a)];simp[yx]
