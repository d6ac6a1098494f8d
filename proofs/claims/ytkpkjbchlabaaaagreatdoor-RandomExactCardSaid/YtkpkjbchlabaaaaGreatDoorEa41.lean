/- A part of the proof. -/
import Derived.Test.YtkpkjbchlabaaaaGreatDoorEa38
import Derived.Test.YtkpkjbchlabaaaaGreatDoorEa40
import Derived.SizedLaws
import Derived.Test.YtkpkjbchlabaaaaGreatDoorRows
import Derived.Test.YtkpkjbchlabaaaaGreatDoorTie
import Derived.Test.YtkpkjbchlabaaaaGreatDoorCards
import Derived.ProofKit
import Derived.LaidMore
import Derived.OpenShut
import Derived.Stop.Joined
import Derived.SevenTiedAt
import Derived.WideKeyArgs
import Derived.MakeChecks
set_option maxHeartbeats 16000000
set_option linter.unusedVariables false
set_option linter.unusedSimpArgs false
set_option maxRecDepth 100000
set_option linter.defProp false
section
namespace Go.Proofs.YtkpkjbchlabaaaaGreatDoor
open Go Go.Abs
def fxE (e:Nat×Nat×Nat):AV×AV×Nat:=(.int .i64 (e.1:Int),.int .i64 (e.2.1:Int),e.2.2)
def fxO:List (Nat×Nat×Nat)->Nat->Option Nat
 | [],_=>none
 | e::r,i=>if e.1=i then some e.2.1 else fxO r i
def jJ (f:Nat->Option Nat)(i x:Nat):Nat->Option Nat:=fun k=>if k=i then some x else f k
theorem qc0 (i:Nat):∀ (E:List (Nat×Nat×Nat)) (k:Nat),(fxO E i=none/\jB (.int .i64 (i:Int)) (E.map fxE) k=some none/\∀ y c,fxO (E++[(i,y,c)])=jJ (fxO E) i y) \/
 ∃ j x,fxO E i=some x/\jB (.int .i64 (i:Int)) (E.map fxE) k=some (some (k+j,.int .i64 (x:Int)))/\∀ y:Nat,∃ E':List (Nat×Nat×Nat),(E.map fxE).modify j (fun e=>(.int .i64 (i:Int),.int .i64 (y:Int),e.2.2))=E'.map fxE/\fxO E'=jJ (fxO E) i y:=by
 intro E
 induction E with
 | nil=>
  intro k;refine .inl ⟨rfl,rfl,fun y c=>?_⟩;funext j;by_cases h:j=i
  . subst h;simp[fxO,jJ]
  . simp[fxO,jJ,h];exact fun e=>h e.symm
 | cons e r ih=>
  intro k;by_cases he:e.1=i
  . refine .inr ⟨0,e.2.1,by simp[fxO,he],?_,fun y=>⟨(i,y,e.2.2)::r,by simp[fxE,List.modify],?_⟩⟩
    . simp[fxE,jB,Qd,he]
    . funext j;by_cases h:j=i
      . subst h;simp[fxO,jJ]
      . have h':¬ i=j:=fun e=>h e.symm
        simp[fxO,jJ,h,h',he]
  . have hne:¬ (i:Int)=(e.1:Int):=(by omega);have hfind:jB (.int .i64 (i:Int)) ((e::r).map fxE) k=jB (.int .i64 (i:Int)) (r.map fxE) (k+1):=by
     have hb:((i:Int)==(e.1:Int))=false:=(by simpa using hne);simp[fxE,jB,Qd,hb]
    rcases ih (k+1) with ⟨h1,h2,h3⟩|⟨j,x,h1,h2,h3⟩
    . refine .inl ⟨by simp[fxO,he,h1],by rw[hfind,h2],fun y c=>?_⟩;funext a;have:=congrFun (h3 y c) a;simp only[jJ]at this ⊢;by_cases ha:e.1=a
      . have hai:¬ a=i:=fun h=>he (ha.trans h)
        simp[fxO,ha,hai]
      . simp[fxO,ha,this]
    . refine .inr ⟨j+1,x,by simp[fxO,he,h1],by rw[hfind,h2,qso,qsc 1 j],fun y=>?_⟩;obtain⟨E',e1,e2⟩:=h3 y;refine⟨e::E',by simp[List.modify,<- e1],?_⟩;funext a;have:=congrFun e2 a;simp only[jJ]at this ⊢;by_cases ha:e.1=a
      . have hai:¬ a=i:=fun h=>he (ha.trans h)
        simp[fxO,ha,hai]
      . simp[fxO,ha,this]
def FxS (F:Nat)(fx:Nat->Option Nat)(H:List Blk):Prop:=∃ E n,H[F]?=some (.map (E.map fxE) n)/\fxO E=fx
theorem FxS.ok {F:Nat}{fx:Nat->Option Nat}{H:List Blk}(h:FxS F fx H):qgz (.map F) fx H:=by
 obtain⟨E,n,h1,rfl⟩:=h;refine .inr ⟨F,_,n,rfl,h1,fun i=>?_⟩;rcases qc0 i E 0 with ⟨h1,h2,_⟩|⟨j,x,h1,h2,_⟩
 . rw[h1];exact h2
 . rw[h1];exact⟨_,h2⟩
theorem FxS.set {F:Nat}{fx:Nat->Option Nat}{H:List Blk}(h:FxS F fx H)(i y:Nat):∃ B,(∀ T,qX (Dof Tryz.prog) ⟨H,T⟩ 106 (.map F) (.int .i64 (i:Int)) (.int .i64 (y:Int))=some ⟨H.set F B,T⟩)/\FxS F (jJ fx i y) (H.set F B):=by
 obtain⟨E,n,h1,rfl⟩:=h;have hl:=(qqp.1 h1).1;rcases qc0 i E 0 with ⟨_,h2,h3⟩|⟨j,x,_,h2,h3⟩
 . refine⟨.map ((E++[(i,y,n)]).map fxE) (n+1),fun T=>by simp[qX,zB,h1,h2,fxE],E++[(i,y,n)],n+1,qqv hl,h3 y n⟩
 . obtain⟨E',e1,e2⟩:=h3 y;rw[qr2]at h2;exact⟨.map (E'.map fxE) n,fun T=>by simp[qX,zB,h1,h2,e1],E',n,qqv hl,e2⟩
theorem FxS.keep {F:Nat}{fx:Nat->Option Nat}{H H':List Blk}{bs:List Nat}(h:FxS F fx H)(hk:KpL bs H H')(hb:F∉bs):FxS F fx H':=by
 obtain⟨E,n,h1,h2⟩:=h;exact⟨E,n,hk.2 _ _ h1 hb,h2⟩
theorem FxS.ne {F N:Nat}{fx:Nat->Option Nat}{H:List Blk}{B:Blk}(h:FxS F fx H)(hb:N≠F):FxS F fx (H.set N B):=by
 obtain⟨E,n,h1,h2⟩:=h;exact⟨E,n,by rw[qqs hb];exact h1,h2⟩
theorem qav (f:Nat->Option Nat)(i x:Nat):jJ f i x i=some x:=by simp[jJ]
theorem qkf (f:Nat->Option Nat)(i x y:Nat):jJ (jJ f i x) i y=jJ f i y:=by
 funext k;by_cases h:k=i<;>simp[jJ,h]
theorem FxS.get {F:Nat}{fx:Nat->Option Nat}{H:List Blk}(h:FxS F fx H){i x:Nat}(hx:fx i=some x)(T:List (Option Nat)):zs (Dof Tryz.prog) ⟨H,T⟩ 106 (.map F) (.int .i64 (i:Int)) false=some (.int .i64 (x:Int)):=by
 obtain⟨E,n,h1,rfl⟩:=h;rcases qc0 i E 0 with ⟨h2,_,_⟩|⟨j,x',h2,h3,_⟩
 . rw[hx]at h2;cases h2
 . rw[hx]at h2;cases h2;simp[zs,zB,h1,h3]
theorem qgc (l:List Int):(l.map qo).flatten=zQ l:=by
 induction l with
 | nil=>rfl
 | cons a r ih=>rw[qqC,qq9,ih];rfl
theorem qi6 {r:AV}{a:List Int}{H:List Blk}(hr:AsR r a H)(ha:a≠[])(hl:a.length<=1000)(T:List (Option Nat)) :
 qf Tryz.prog GG 58 [r] ⟨H,T⟩ (fun v U'=>v=.ms H.length 0 a.length 1/\U'=⟨H++[.cells (zQ a)],T⟩):=by
 refine qf.kO ⟨true,[],[],[]⟩ qe Tryz.func58 rfl (by kernel_rfl) ?_;rcases hr with ⟨tok,rfl⟩|⟨N,rfl,hA⟩
 . cases a with
   | nil=>exact absurd rfl ha
   | cons x a=>
    have h2:a.length+1<=549755813888:=(by simp at hl;omega);have h3:=qgc (x::a);simp only[qqC]at h3;simp[-getElem?_pos,zC,jn,qS,W7,h2];exact h3
 . have h2:a.length<=549755813888:=(by omega);have h1:(zQ a).take a.length=zQ a:=qqx (by rw[zd];exact qqB _);simp[-getElem?_pos,hA,zC,jn,qS,W7,zd,h1,h2,ha]
theorem qlz {s:List Int}{x z:Int}:z∈qeu s x↔z∈s\/z=x:=by
 have:∀ (s:List Int),z∈qgx s x↔z∈s\/z=x:=by
  intro s
  induction s with
  | nil=>simp[qgx]
  | cons y r ih=>
   unfold qgx;split
   . simp only[qqQ,ih];constructor
     . rintro (h|h|h)<;>simp[h]
     . rintro ((h|h)|h)<;>simp[h]
   . simp only[qqQ];constructor
     . rintro (h|h|h)<;>simp[h]
     . rintro ((h|h)|h)<;>simp[h]
 rw[qeu,List.mem_reverse,this,List.mem_reverse]
theorem qbj {z:Int}:∀ (n:Nat) (l:List Int),l.length=n->(z∈wj l↔z∈l):=by
 intro n
 induction n with
 | zero=>intro l h;rw[qqG h];rfl
 | succ n ih=>
  intro l h;have hne:l≠[]:=fun e=>by rw[e]at h;simp at h
  have e:=qsv hne;rw[<- e,ZL,qlz,ih _ (by simp[h])];simp
def jR (g:List Nat):List Nat:=(wj (g.map fun n:Nat=>(n:Int))).map Int.toNat
theorem qdS (g:List Nat):wj (g.map fun n:Nat=>(n:Int))=(jR g).map fun n:Nat=>(n:Int):=by
 unfold jR;rw[qrM]
 symm
 conv=>rhs;rw[<- List.map_id (wj _)]
 refine qrz fun z hz=>?_
 rw[qbj _ _ rfl]at hz;obtain⟨n,_,rfl⟩:=qqT.1 hz;rfl
theorem QR {g:List Nat}{i:Nat}:i∈jR g↔i∈g:=by
 have:((i:Int)∈wj (g.map fun n:Nat=>(n:Int)))↔(i:Int)∈(g.map fun n:Nat=>(n:Int)):=qbj _ _ rfl;rw[qdS]at this;have key:∀ l:List Nat,((i:Int)∈l.map fun n:Nat=>(n:Int))↔i∈l:=fun l=>by
  rw[qqT];exact⟨fun ⟨n,hn,e⟩=>by
   have:n=i:=by omega
   exact this▸hn,fun h=>⟨i,h,rfl⟩⟩
 rwa[key,key]at this
theorem qaG (g:List Nat):(jR g).length=g.length:=by
 unfold jR;rw[qq7,YW _ _ rfl,qq7]
def jG (F:Nat->Nat):Nat->Nat->Int->Nat×Int
 | 0,x,idx=>(x,idx)
 | n+1,x,idx=>if idx<F x then (x,idx) else if n=0 then (x,idx-F x) else jG F n (x+1) (idx-F x)
def wdN (p:Problem)(i:Nat):Nat:=match p.vars[i]? with | some v=>v.width.toNat | none=>0
noncomputable def chS (s:Spc)(d:List Nd)(a:List Int)(gi:Nat):List Nat->(Nat->Option Nat)->Int->List Int->List Int
 | [],_,_,out=>out
 | i::r,fx,idx,out=>
  let q:=jG (fun x=>W6 s d (jJ fx i x) a gi) (2 ^ wdN s.p i) 0 idx
  chS s d a gi r (jJ fx i q.1) q.2 (out.set i q.1)
noncomputable def VR (s:Spc)(d:List Nd)(gi:Nat)(a:List Int)(idx:Int):List Int:=chS s d a gi (jR ((NG s.p).getD gi [])) (fun _=>none) idx a
def ChQ (out:List Int)(H:List Blk)(v:AV)(U':St):Prop:=KpL [] H U'.H/\∃ N,v=.ms N 0 out.length 1/\H.length<=N/\U'.H[N]?=some (.cells (zQ out))
theorem qmj {s:Spc}{d:List Nd}(h:SpV s d)(hl12:(NG s.p).flatten.length<=12){gi:Nat}(hgi:gi<(NG s.p).length){r:AV}{a:List Int}{H:List Blk}(hao:AOk s.p a)(hal:a.length=s.p.vars.length)(hs:SpOk s H)(ha:AsR r a H)(T:List (Option Nat))
 {idx:Int} (hi0:0<=idx) (hi1:idx<2 ^ 62) :
 qf Tryz.prog GG 30 [.ptr s.S 0,.int .i64 gi,r,.int .i64 idx] ⟨H,T⟩ (ChQ (VR s d gi a idx) H):=by
 refine qf.k qe Tryz.func30 rfl (by kernel_rfl) ?_;obtain⟨g,hg⟩:∃ g,(NG s.p)[gi]?=some g:=⟨_,qqr hgi⟩;have hgd:(NG s.p).getD gi []=g:=by simp[qqz,hg]
 have hgm:=qqq hg;have hmf:∀ i∈g,i∈(NG s.p).flatten:=fun i hi=>qrd.2 ⟨g,hgm,hi⟩
 have hg12:g.length<=12:=by
  have:∀ (G:List (List Nat)),g∈G->g.length<=G.flatten.length:=by
   intro G
   induction G with
   | nil=>intro h;simp at h
   | cons x r ih=>
    intro h;rw[qq9,qqu];rcases qqQ.1 h with rfl|h
    . omega
    . have:=ih h;omega
  exact qrf (this _ hgm) hl12
 have hgne:g≠[]:=by
  obtain⟨g',hg',rfl⟩:=qqT.1 hgm;have:=(jX h.vp).1 g' hg';simpa using this
 have hane:a≠[]:=by
  intro e;obtain⟨i,r',rfl⟩:=qsd hgne;obtain⟨n,hn,_⟩:=hao i (hmf i (by simp));rw[e]at hn;simp at hn
 have hvl:=h.vq.vars;have hcl:=qi6 ha hane (by omega) T;have hG:=Qm h.vp;have hS:=hs.c;simp only[spE,qD,qqK,qqL,hG]at hS;have hgil:gi<s.p.groups.length:=by
  have:(NG s.p).length=s.p.groups.length:=by simp[NG]
  omega
 have hval:=qgQ (g.map fun n:Nat=>(n:Int)) .none (by simp);have hsrt:=qft (g.map fun n:Nat=>(n:Int)) (by simpa using hg12) .none;have hrw:Jx (g.map fun n:Nat=>(n:Int))=g.map ze:=by simp[Jx,ze]
 have hnr:zi (g.map ze)=true:=by rw[<- hrw];exact wA _
 rw[hrw]at hval hsrt;rw[qdS,qrM]at hsrt;have hsm:((jR g).map (qo∘fun n:Nat=>(n:Int)))=(jR g).map ze:=by simp[qo,ze]
 rw[hsm]at hsrt;have hsl:(jR g).length<=12:=by rw[qaG];exact hg12
 have hNl:(NG s.p).length=s.p.groups.length:=by simp[NG]
 unfold VR;rw[hgd];simp[-getElem?_pos];refine qc.acall hcl ?_;rintro v U ⟨rfl,rfl⟩;have hS1:=qa hS [.cells (zQ a)];simp[-getElem?_pos,hS,hg,zr,qa];refine qc.call hval (by simp[hnr]) ?_;simp[-getElem?_pos];refine qc.call hsrt (by simp[hnr]) ?_;simp[-getElem?_pos];refine qV.listR (jR g) (fun dn ev U=>ev 0=.ptr s.S 0/\ev 1=.int .i64 gi/\ev 2=r/\ev 9=.ms H.length 0 a.length 1/\ev 10=.map (H.length+1)/\ev 27=.sl 1 ((jR g).map ze) .none/\ev 28=.int .i64 (jR g).length/\ev 29=.int .i64 dn.length /\
  ∃ (rest:List Nat) (fx:Nat->Option Nat) (ix:Int) (out:List Int),jR g=dn++rest/\ev 3=.int .i64 ix/\chS s d a gi rest fx ix out=chS s d a gi (jR g) (fun _=>none) idx a/\KpL [] H U.H/\U.H[H.length]?=some (.cells (zQ out))/\FxS (H.length+1) fx U.H/\out.length=a.length/\0<=ix/\ix<2 ^ 62/\∀ i x,fx i=some x->x<65536) ?_ ?_ ?_
 . exact⟨by simp,by simp,by simp,by simp,by simp,by simp,by simp,by simp,jR g,fun _=>none,idx,a,rfl,by simp,rfl,KpL.app,by simp,⟨[],0,by simp,rfl⟩,rfl,hi0,hi1,by simp⟩
 . rintro dn i rest0 ev ⟨H1,T1⟩ R hR hd hx hlt ⟨e0,e1,e2,e9,e10,e27,e28,e29,rest,fx,ix,out,hre,e3,hch,hk,hN,hF,hol,hx0,hx1,hfx⟩;dsimp only at hk hN hF;have hre':rest=i::rest0:=by
    have:=hre.symm.trans hd;simpa using this
   subst hre';have hig:i∈g:=QR.1 (qqq hx);obtain⟨v,l,hv,hw0,hw8,_,_,_⟩:=h.gr hmf i hig;have hvi:=(qqp.1 hv).1;have hwd:wdN s.p i=v.width.toNat:=(by unfold wdN;rw[hv]);have hs1:=Qv hw0 (by omega);have hwn:¬ v.width<0:=(by omega);have hp8:2 ^ v.width.toNat<=2 ^ 8:=qqY (by omega) (by omega);have hp0:0<2 ^ v.width.toNat:=qsy _;obtain⟨W,hW⟩:∃ W,W=2 ^ v.width.toNat:=⟨_,rfl⟩;have hch':chS s d a gi rest0 (jJ fx i (jG (fun x=>W6 s d (jJ fx i x) a gi) W 0 ix).1) (jG (fun x=>W6 s d (jJ fx i x) a gi) W 0 ix).2 (out.set i (jG (fun x=>W6 s d (jJ fx i x) a gi) W 0 ix).1)=chS s d a gi (jR g) (fun _=>none) idx a:=by
    rw[<- hch,hW,<- hwd];rfl
   rw[<- hW]at hs1 hp8 hp0;generalize hSF:(fun x=>W6 s d (jJ fx i x) a gi)=SF at *;have hSFx:∀ x,SF x=W6 s d (jJ fx i x) a gi:=fun x=>by rw[<- hSF]
   have hwl:=wr (n:=(dn.length:Int)+1) (by omega) (by omega);have hS1:=hk.2 _ _ hS (by simp);have hlt':(dn.length:Int)<(jR g).length:=(by omega);simp[-getElem?_pos,e0,e27,e28,e29,hlt',hx,ze,hS1,hv,hwn,IntKind.bits,hs1];refine qV.gen (fun n ev U=>ev 0=.ptr s.S 0/\ev 1=.int .i64 gi/\ev 2=r/\ev 9=.ms H.length 0 a.length 1/\ev 10=.map (H.length+1)/\ev 12=.int .i64 i/\ev 27=.sl 1 ((jR g).map ze) .none/\ev 28=.int .i64 (jR g).length/\ev 29=.int .i64 dn.length/\ev 42=.int .i64 W /\
    ∃ (x:Nat) (fc:Nat->Option Nat) (ic:Int),n=W-x/\ev 3=.int .i64 ic/\ev 43=.int .i64 x/\KpL [] H U.H/\U.H[H.length]?=some (.cells (zQ out))/\FxS (H.length+1) fc U.H/\0<=ic/\ic<2 ^ 62/\(∀ i x,fc i=some x->x<65536) /\
     ((x<W/\jG SF W 0 ix=jG SF (W-x) x ic/\∀ y,jJ fc i y=jJ fx i y)\/(x=W/\jG SF W 0 ix=(W-1,ic)/\fc=jJ fx i (W-1)))) W ?_ ?_
   . exact⟨by simp[e0],by simp[e1],by simp[e2],by simp[e9],by simp[e10],by simp,by simp[e27],by simp[e28],by simp[e29],by simp,0,fx,ix,by simp,by simp[e3],by simp,hk,hN,hF,hx0,hx1,hfx,.inl ⟨hp0,rfl,fun _=>rfl⟩⟩
   . rintro n ev ⟨H2,T2⟩ R2 hR2 ⟨e0,e1,e2,e9,e10,e12,e27,e28,e29,e42,x,fc,ic,rfl,e3,e43,hk,hN,hF,hc0,hc1,hfc,hcase⟩;dsimp only at hk hN hF;have hil:i<out.length:=(by omega);have hil':(i:Int)<(out.length:Int):=(by omega);have hial:(i:Int)<(a.length:Int):=(by omega);have hial1:i+1<=a.length:=(by omega);have tail:∀ (x:Nat) (ic:Int) (H3:List Blk) (T3:List (Option Nat)) (ev':Env),ev' 0=.ptr s.S 0->ev' 1=.int .i64 gi->ev' 2=r->ev' 9=.ms H.length 0 a.length 1->ev' 10=.map (H.length+1)->ev' 27=.sl 1 ((jR g).map ze) .none->ev' 28=.int .i64 (jR g).length->ev' 29=.int .i64 ((dn.length:Int)+1)->ev' 3=.int .i64 ic ->
      KpL [] H H3->H3[H.length]?=some (.cells (zQ out))->FxS (H.length+1) (jJ fx i x) H3->0<=ic->ic<2 ^ 62->x<65536->jG SF W 0 ix=(x,ic)->R ev' ⟨H3.set H.length (.cells (zQ (out.set i x))),T3⟩:=by
      intro x ic H3 T3 ev' a0 a1 a2 a9 a10 a27 a28 a29 a3 bk bN bF b0 b1 bx hp;refine hR _ _ ⟨a0,a1,a2,a9,a10,a27,a28,by rw[a29];simp,rest0,jJ fx i x,ic,out.set i x,by rw[hd];simp,a3,?_,bk.setF (qqB _),qqv (qqp.1 bN).1,bF.ne (by omega),by simp[hol],b0,b1,?_⟩
      . rw[<- hch',hp]
      . intro k y hy;unfold jJ at hy;split at hy
        . have:x=y:=by simpa using hy
          omega
        . exact hfx k y hy
     rcases hcase with ⟨hxW,hpk,hup⟩|⟨hxW,hpk,hup⟩
     . have hxW':(x:Int)<W:=(by omega);have hwx:=wr (n:=(x:Int)+1) (by omega) (by omega);obtain⟨B,hB,hF'⟩:=hF.set i x;have hF'':=hF';rw[hup]at hF'';have hkB:=hk.setF (b:=H.length+1) (y:=B) (by omega);have hNB:(H2.set (H.length+1) B)[H.length]?=some (.cells (zQ out)):=(by rw[qqs (by omega)];exact hN);have hfu:∀ k y,jJ fx i x k=some y->y<65536:=fun k y hy=>by
        unfold jJ at hy;split at hy
        . have:x=y:=by simpa using hy
          omega
        . exact hfx k y hy
       have hsu:=qmS h hfu hgi hao (hs.keep hkB (by simp) (by simp) (by simp)) hF''.ok (ha.keep hkB (by simp)) T2;rw[<- hSFx]at hsu;have hpkx:jG SF (W-x) x ic=if ic<SF x then (x,ic) else if W-x-1=0 then (x,ic-SF x) else jG SF (W-x-1) (x+1) (ic-SF x):=by
        obtain⟨m,hm⟩:∃ m,W-x=m+1:=⟨W-x-1,by omega⟩;rw[hm];rfl
       have hSl:SF x<=lim:=(by rw[hSFx];exact qg8 _ _ _ _ _);simp[-getElem?_pos,e0,e1,e2,e10,e12,e42,e43,hxW',hB];refine qc.acall hsu ?_;rintro v ⟨H3,T3⟩ ⟨rfl,hk3⟩;dsimp only at hk3;have hF3:=hF''.keep hk3 (by simp);have hN3:=hk3.2 _ _ hNB (by simp);have hkk:=hkB.trans hk3;have hget:=hF3.get (qav fx i x) T3;by_cases hlt2:ic<SF x
       . rw[if_pos hlt2]at hpkx;simp[-getElem?_pos,e3,e9,e10,e12,e29,hlt2,hget,hial,hial1,hN3,zd,hol,kR,hwl];exact tail x ic H3 T3 _ (by simp[e0]) (by simp[e1]) (by simp[e2]) (by simp[e9]) (by simp[e10]) (by simp[e27]) (by simp[e28]) (by simp) (by simp[e3]) hkk hN3 hF3 hc0 hc1 (by omega) (by rw[hpk,hpkx])
       . rw[if_neg hlt2]at hpkx;have hws:=wr (n:=ic-(SF x:Int)) (by omega) (by omega);simp[-getElem?_pos,e3,e43,hlt2,hws,hwx];refine hR2 (W-(x+1)) _ _ (by omega) ⟨by simp[e0],by simp[e1],by simp[e2],by simp[e9],by simp[e10],by simp[e12],by simp[e27],by simp[e28],by simp[e29],by simp[e42],x+1,jJ fx i x,ic-SF x,rfl,by simp,by simp,hkk,hN3,hF3,by omega,by omega,hfu,?_⟩;by_cases hlast:W-x-1=0
         . rw[if_pos hlast]at hpkx;refine .inr ⟨by omega,?_,?_⟩
           . rw[hpk,hpkx];congr 1;omega
           . congr 1;omega
         . rw[if_neg hlast]at hpkx;exact .inl ⟨by omega,by rw[hpk,hpkx];rfl,fun y=>qkf _ _ _ _⟩
     . have hxW':¬ (x:Int)<W:=(by omega);subst hup;have hget:=hF.get (qav fx i (W-1)) T2;simp[-getElem?_pos,e9,e10,e12,e29,e42,e43,hxW,hget,hial,hial1,hN,zd,hol,kR,hwl];exact tail (W-1) ic H2 T2 _ (by simp[e0]) (by simp[e1]) (by simp[e2]) (by simp[e9]) (by simp[e10]) (by simp[e27]) (by simp[e28]) (by simp) (by simp[e3]) hk hN hF hc0 hc1 (by omega) hpk
 . rintro ev ⟨H1,T1⟩ ⟨e0,e1,e2,e9,e10,e27,e28,e29,rest,fx,ix,out,hre,e3,hch,hk,hN,hF,hol,hx0,hx1,hfx⟩;dsimp only at hk hN hF;have hre':rest=[]:=(by simpa using hre);subst hre';rw[<- hch];simp[-getElem?_pos,e9,e28,e29];exact⟨hk,H.length,by simp[chS,hol],qqB _,hN⟩
abbrev Rng:=Int×Int
def encR (r:Rng):List AV:=[.int .u64 r.1,.int .u64 r.2]
section
section
variable {H:Type}{enc:TypeId×Value->H}{w:World}{base:Nat}{held:Bool}
theorem Q2 {fs:Array Field}{t n:Nat}{cs:List Value}{x:DataW H×List MemPlace}(ht:Tryz.prog.underlying t=some (.struct fs))(h:DataW.trod enc Tryz.prog w base (fun _=>true) held n t cs=some x) :
 ∃ m,n=m+1/\cs.length=Tryz.prog.cellsOf t/\∀ (i:Nat) (f:Field),fs[i]?=some f->∃ y,DataW.trod enc Tryz.prog w base (fun _=>true) held m f.type ((cs.drop f.offset).take (Tryz.prog.cellsOf f.type))=some y:=by
 obtain⟨xs,m,rfl,rfl,hl,hlen,hf⟩:=DataW.trod_struct ht h;refine⟨m,rfl,hl,fun i f hi=>?_⟩;have hlt:i<fs.size:=(qrb.1 hi).1;exact⟨xs[i]'(by omega),by rw[hf i f hi,qqr]⟩
theorem qht {fs:Array Field}{t n:Nat}{cs:List Value}{x:DataW H×List MemPlace}(ht:Tryz.prog.underlying t=some (.struct fs))(h:DataW.trod enc Tryz.prog w base (fun _=>true) held n t cs=some x) :
 ∃ m,n=m+1/\cs.length=Tryz.prog.cellsOf t/\(∀ (i:Nat) (f:Field),fs[i]?=some f->∃ y,DataW.trod enc Tryz.prog w base (fun _=>true) held m f.type ((cs.drop f.offset).take (Tryz.prog.cellsOf f.type))=some y) /\
  ∀ (i:Nat) (f:Field),fs[i]?=some f->∀ y,DataW.trod enc Tryz.prog w base (fun _=>true) held m f.type ((cs.drop f.offset).take (Tryz.prog.cellsOf f.type))=some y->∃ xs:List (DataW H×List MemPlace),x.1=.agg (xs.map (·.1))/\xs.length=fs.size/\xs[i]?=some y:=by
 obtain⟨xs,m,rfl,rfl,hl,hlen,hf⟩:=DataW.trod_struct ht h;refine⟨m,rfl,hl,fun i f hi=>?_,fun i f hi y hy=>⟨xs,rfl,hlen,?_⟩⟩
 . have hlt:i<fs.size:=(qrb.1 hi).1;exact⟨xs[i]'(by omega),by rw[hf i f hi,qqr]⟩
 . rw[<- hf i f hi,hy]
theorem k3:Tryz.prog.cellsOf 3=1:=by kernel_rfl
theorem k4:Tryz.prog.cellsOf 4=1:=by kernel_rfl
theorem k9:Tryz.prog.cellsOf 9=1:=by kernel_rfl
theorem k37:Tryz.prog.cellsOf 28=1:=by kernel_rfl
theorem k22:Tryz.prog.cellsOf 22=1:=by kernel_rfl
theorem k23:Tryz.prog.cellsOf 23=1:=by kernel_rfl
theorem k24:Tryz.prog.cellsOf 24=1:=by kernel_rfl
theorem k25:Tryz.prog.cellsOf 25=1:=by kernel_rfl
theorem k27:Tryz.prog.cellsOf 27=5:=by kernel_rfl
theorem k57:Tryz.prog.cellsOf 52=4:=by kernel_rfl
theorem k50:Tryz.prog.cellsOf 61=4:=by kernel_rfl
theorem k75:Tryz.prog.cellsOf 54=1:=by kernel_rfl
theorem k77:Tryz.prog.cellsOf 56=2:=by kernel_rfl
theorem k145:Tryz.prog.cellsOf 136=4:=by kernel_rfl
theorem qcx {s:ByteArray}:qg (KMw w) (.str s.data.toList) (.string s):=by
 obtain⟨d⟩:=s;unfold qg;show Value.string ⟨d⟩=Value.string ⟨d.toList.toArray⟩;rw[qsl]
theorem Q1 {n:Nat}{c:Value}{y:DataW H×List MemPlace}(h:DataW.trod enc Tryz.prog w base (fun _=>true) held n 3 [c]=some y):∃ i:Int,c=.int .i64 i:=by
 obtain⟨i,e,_⟩:=DataW.trod_int Tryz.underlying3 h;exact⟨i,(List.cons.inj e).1⟩
theorem qoB {n:Nat}{c:Value}{y:DataW H×List MemPlace}(h:DataW.trod enc Tryz.prog w base (fun _=>true) held n 4 [c]=some y):∃ i:Bool,c=.bool i:=by
 obtain⟨i,e,_⟩:=DataW.trod_bool Tryz.underlying4 h;exact⟨i,(List.cons.inj e).1⟩
theorem qmY {n:Nat}{c:Value}{y:DataW H×List MemPlace}(h:DataW.trod enc Tryz.prog w base (fun _=>true) held n 9 [c]=some y):∃ s:ByteArray,c=.string s/\Fits s.data.toList:=by
 obtain⟨s,e,_,hs⟩:=DataW.trod_string Tryz.underlying9 h;refine⟨s,(List.cons.inj e).1,?_⟩;have:s.data.toList.length=s.size:=qrq;rw[Fits,this];simp only[maxLen]at hs;omega
theorem rdVar {n:Nat}{cs:List Value}{x:DataW H×List MemPlace}(h:DataW.trod enc Tryz.prog w base (fun _=>true) held n 61 cs=some x):∃ v:Var,qh (KMw w) (qz v) cs/\Fits v.name:=by
 obtain⟨m,rfl,hl,hf⟩:=Q2 Tryz.underlying61 h;rw[k50]at hl
 match cs,hl with
 | [a,b,c,d],_=>
  obtain⟨y0,h0⟩:=hf 0 _ rfl;obtain⟨y1,h1⟩:=hf 1 _ rfl;obtain⟨y2,h2⟩:=hf 2 _ rfl;obtain⟨y3,h3⟩:=hf 3 _ rfl;have h0:DataW.trod enc Tryz.prog w base (fun _=>true) held m 9 (List.take (Tryz.prog.cellsOf 9) (List.drop 0 [a,b,c,d]))=some y0:=h0;rw[k9]at h0;have h1:DataW.trod enc Tryz.prog w base (fun _=>true) held m 3 (List.take (Tryz.prog.cellsOf 3) (List.drop 1 [a,b,c,d]))=some y1:=h1;rw[k3]at h1;have h2:DataW.trod enc Tryz.prog w base (fun _=>true) held m 3 (List.take (Tryz.prog.cellsOf 3) (List.drop 2 [a,b,c,d]))=some y2:=h2;rw[k3]at h2;have h3:DataW.trod enc Tryz.prog w base (fun _=>true) held m 3 (List.take (Tryz.prog.cellsOf 3) (List.drop 3 [a,b,c,d]))=some y3:=h3;rw[k3]at h3;obtain⟨s,rfl,hs⟩:=qmY (c:=a) h0;obtain⟨i1,rfl⟩:=Q1 (c:=b) h1;obtain⟨i2,rfl⟩:=Q1 (c:=c) h2;obtain⟨i3,rfl⟩:=Q1 (c:=d) h3;refine⟨⟨s.data.toList,i1,i2,i3⟩,?_,hs⟩;simp only[qz,qh];exact⟨_,_,rfl,qcx,_,_,rfl,by simp[qg],_,_,rfl,by simp[qg],_,_,rfl,by simp[qg],rfl⟩
theorem qkx {n:Nat}{cs:List Value}{x:DataW H×List MemPlace}(h:DataW.trod enc Tryz.prog w base (fun _=>true) held n 136 cs=some x):∃ v:Weight,qh (KMw w) (qA v) cs/\True:=by
 obtain⟨m,rfl,hl,hf⟩:=Q2 Tryz.underlying136 h;rw[k145]at hl
 match cs,hl with
 | [a,b,c,d],_=>
  obtain⟨y0,h0⟩:=hf 0 _ rfl;obtain⟨y1,h1⟩:=hf 1 _ rfl;obtain⟨y2,h2⟩:=hf 2 _ rfl;obtain⟨y3,h3⟩:=hf 3 _ rfl;have h0:DataW.trod enc Tryz.prog w base (fun _=>true) held m 3 (List.take (Tryz.prog.cellsOf 3) (List.drop 0 [a,b,c,d]))=some y0:=h0;rw[k3]at h0;have h1:DataW.trod enc Tryz.prog w base (fun _=>true) held m 3 (List.take (Tryz.prog.cellsOf 3) (List.drop 1 [a,b,c,d]))=some y1:=h1;rw[k3]at h1;have h2:DataW.trod enc Tryz.prog w base (fun _=>true) held m 3 (List.take (Tryz.prog.cellsOf 3) (List.drop 2 [a,b,c,d]))=some y2:=h2;rw[k3]at h2;have h3:DataW.trod enc Tryz.prog w base (fun _=>true) held m 4 (List.take (Tryz.prog.cellsOf 4) (List.drop 3 [a,b,c,d]))=some y3:=h3;rw[k4]at h3;obtain⟨i0,rfl⟩:=Q1 (c:=a) h0;obtain⟨i1,rfl⟩:=Q1 (c:=b) h1;obtain⟨i2,rfl⟩:=Q1 (c:=c) h2;obtain⟨i3,rfl⟩:=qoB (c:=d) h3;refine⟨⟨i0,i1,i2,i3⟩,?_,trivial⟩;simp[qh,qg]
theorem rdDist {n:Nat}{cs:List Value}{x:DataW H×List MemPlace}(h:DataW.trod enc Tryz.prog w base (fun _=>true) held n 56 cs=some x):∃ v:Dist,qh (KMw w) (zj v) cs/\Fits v.weights:=by
 obtain⟨m,rfl,hl,hf⟩:=Q2 Tryz.underlying56 h;rw[k77]at hl
 match cs,hl with
 | [a,b],_=>
  obtain⟨y0,h0⟩:=hf 0 _ rfl;obtain⟨y1,h1⟩:=hf 1 _ rfl;have h0:DataW.trod enc Tryz.prog w base (fun _=>true) held m 3 (List.take (Tryz.prog.cellsOf 3) (List.drop 0 [a,b]))=some y0:=h0;rw[k3]at h0;have h1:DataW.trod enc Tryz.prog w base (fun _=>true) held m 54 (List.take (Tryz.prog.cellsOf 54) (List.drop 1 [a,b]))=some y1:=h1;rw[k75]at h1;obtain⟨i0,rfl⟩:=Q1 (c:=a) h0;have h1':DataW.trod enc Tryz.prog w base (fun _=>true) held m 54 [b]=some y1:=h1
  cases m with
  | zero=>simp[DataW.trod]at h1'
  | succ m=>
   obtain⟨l,v,e,hv,hfl,_⟩:=wB (en:=qA) (good:=fun _=>True) Tryz.underlying54 k145 (by omega) (fun y=>by simp[AV.atom]) (fun cs x h=>qkx h) h1';cases e;refine⟨⟨i0,l⟩,?_,hfl⟩;simp only[zj,qh,qg];exact⟨_,_,rfl,rfl,_,[],rfl,by simpa only[qg] using hv,rfl⟩
theorem rdInts {n:Nat}{cs:List Value}{x:DataW H×List MemPlace}(h:DataW.trod enc Tryz.prog w base (fun _=>true) held n 28 cs=some x):∃ l:List Int,qh (KMw w) (zF l) cs/\Fits l:=by
 cases n with
 | zero=>simp[DataW.trod]at h
 | succ m=>
  obtain⟨l,v,rfl,hv,hfl,_⟩:=wB (en:=qo) (good:=fun _=>True) Tryz.underlying28 k3 (by omega) (fun y=>by simp[AV.atom]) (fun cs x h=>by
   obtain⟨i,e,_⟩:=DataW.trod_int Tryz.underlying3 h;exact⟨i,by rw[e];simp[qh,qg],trivial⟩) h
  refine⟨l,?_,hfl⟩;simp only[zF,qh];exact⟨v,[],rfl,hv,rfl⟩
theorem rdE:∀ (N n:Nat),n<=N->∀ {cs:List Value} {x:DataW H×List MemPlace},DataW.trod enc Tryz.prog w base (fun _=>true) held n 52 cs=some x->∃ e:Ex,qh (KMw w) (qr e) cs/\Wen e:=by
 intro N
 induction N with
 | zero=>
  intro n hn cs x h;have:n=0:=by omega
  subst this;simp[DataW.trod]at h
 | succ N ih=>
  intro n hn cs x h;obtain⟨m,rfl,hl,hf⟩:=Q2 Tryz.underlying52 h;rw[k57]at hl
  match cs,hl with
  | [a,b,c,d],_=>
   obtain⟨y0,h0⟩:=hf 0 _ rfl;obtain⟨y1,h1⟩:=hf 1 _ rfl;obtain⟨y2,h2⟩:=hf 2 _ rfl;obtain⟨y3,h3⟩:=hf 3 _ rfl;have h0:DataW.trod enc Tryz.prog w base (fun _=>true) held m 3 (List.take (Tryz.prog.cellsOf 3) (List.drop 0 [a,b,c,d]))=some y0:=h0;rw[k3]at h0;have h1:DataW.trod enc Tryz.prog w base (fun _=>true) held m 3 (List.take (Tryz.prog.cellsOf 3) (List.drop 1 [a,b,c,d]))=some y1:=h1;rw[k3]at h1;have h2:DataW.trod enc Tryz.prog w base (fun _=>true) held m 9 (List.take (Tryz.prog.cellsOf 9) (List.drop 2 [a,b,c,d]))=some y2:=h2;rw[k9]at h2;have h3:DataW.trod enc Tryz.prog w base (fun _=>true) held m 23 (List.take (Tryz.prog.cellsOf 23) (List.drop 3 [a,b,c,d]))=some y3:=h3;rw[k23]at h3;obtain⟨i0,rfl⟩:=Q1 (c:=a) h0;obtain⟨i1,rfl⟩:=Q1 (c:=b) h1;obtain⟨s,rfl,hs⟩:=qmY (c:=c) h2;have h3':DataW.trod enc Tryz.prog w base (fun _=>true) held m 23 [d]=some y3:=h3
   cases m with
   | zero=>simp[DataW.trod]at h3'
   | succ m=>
    obtain⟨l,v,e,hv,hfl,hg⟩:=wB (en:=qr) (good:=Wen) Tryz.underlying23 k57 (by omega) (fun y=>by rw[qd];simp[AV.atom]) (fun cs x h=>ih m (by omega) h) h3';cases e;refine⟨.mk i0 i1 s.data.toList l,?_,?_⟩
    . rw[qd];simp only[qh,Ex.op_mk,Ex.n_mk,Ex.name_mk,Ex.args_mk];exact⟨_,_,rfl,by simp[qg],_,_,rfl,by simp[qg],_,_,rfl,qcx,_,[],rfl,hv,rfl⟩
    . intro y hy;rw[jw]at hy;rcases qqQ.1 hy with rfl|hy
      . exact⟨hfl,hs⟩
      . obtain⟨a,ha,hya⟩:=Q9.1 hy;exact hg a ha y hya
theorem b3:Tryz.prog.bytesOf 3=8:=by kernel_rfl
theorem w_all {P:Program}{e:TypeId}:∀ {E:List (DataW H)} {d:DataW H},d∈E->∀ k∈d.weights P e,k∈DataW.weightsAll P e E
 | [],_,h,_,_=>nomatch h
 | a::r,d,h,k,hk=>by
  simp only[DataW.weightsAll,qqJ];rcases qqQ.1 h with rfl|h
  . exact .inl hk
  . exact .inr (w_all h k hk)
theorem qky {n:Nat}{cs:List Value}{x:DataW H×List MemPlace}(h:DataW.trod enc Tryz.prog w base (fun _=>true) held (n+1) 25 cs=some x)(hw:∀ k∈x.1.weights Tryz.prog 25,k<=reachBytes) :
 ∃ (l:List (List Int)) (v:Value),cs=[v]/\qg (KMw w) (.sl 1 (l.map zF) .none) v/\Fits l/\∀ y∈l,Fits y/\y.length<17592186044416:=by
 obtain⟨l,v,h1,h2,h3,h4,_⟩:=Yu (en:=zF) (good:=fun g=>Fits g/\g.length<17592186044416) (X:=fun d=>∀ k∈d.weights Tryz.prog 28,k<=reachBytes) Tryz.underlying25 k37 (by omega) (fun y=>by simp[AV.atom]) (fun cs x h hx=>by
  cases n with
  | zero=>simp[DataW.trod]at h
  | succ m=>
   obtain⟨l,v,rfl,hv,hfl,_,hN⟩:=Yu (en:=qo) (good:=fun _=>True) (X:=fun _=>True) Tryz.underlying28 k3 (by omega) (fun y=>by simp[AV.atom]) (fun cs x h _=>by
    obtain⟨i,e,_⟩:=DataW.trod_int Tryz.underlying3 h;exact⟨i,by rw[e];simp[qh,qg],trivial⟩) h (fun _ _ _ _ _=>trivial)
   refine⟨l,?_,hfl,?_⟩
   . simp only[zF,qh];exact⟨v,[],rfl,hv,rfl⟩
   . have:=hN 17592186044415 fun E S e=>by
      have:=hx ((E.length+S.length)*Tryz.prog.bytesOf 3) (by rw[e];simp only[DataW.weights,Tryz.underlying28];exact qsf);rw[b3]at this;simp only[reachBytes]at this;omega
     omega) h (fun E S e d hd k hk=>hw k (by
      rw[e];simp only[DataW.weights,Tryz.underlying25];exact qrY _ (qri _ (w_all hd k hk))))
 exact⟨l,v,h1,h2,h3,h4⟩
theorem rdP {n:Nat}{cs:List Value}{x:DataW H×List MemPlace}(h:DataW.trod enc Tryz.prog w base (fun _=>true) held n 27 cs=some x)(hw:∀ k∈x.1.weights Tryz.prog 27,k<=reachBytes):∃ p:Problem,qh (KMw w) (qD p) cs/\VM p:=by
 have hx:∀ y4,(∃ xs:List (DataW H×List MemPlace),x.1=.agg (xs.map (·.1))/\xs.length=5/\xs[4]?=some y4)->∀ k∈y4.1.weights Tryz.prog 25,k<=reachBytes:=by
  rintro y4 ⟨xs,e,hl,h4⟩ k hk;refine hw k ?_;rw[e]
  match xs,hl with
  | [a,b,c,d,e],_=>
   simp at h4;subst h4;simp only[DataW.weights,Tryz.underlying27,qqC,qq8,DataW.weightsEach,qqJ];exact .inr (.inr (.inr (.inr (.inl hk))))
 obtain⟨m,rfl,hl,hf,hy⟩:=qht Tryz.underlying27 h;rw[k27]at hl
 match cs,hl with
 | [a,b,c,d,e],_=>
  obtain⟨y0,h0⟩:=hf 0 _ rfl;obtain⟨y1,h1⟩:=hf 1 _ rfl;obtain⟨y2,h2⟩:=hf 2 _ rfl;obtain⟨y3,h3⟩:=hf 3 _ rfl;obtain⟨y4,h4⟩:=hf 4 _ rfl;have h4w:=hx y4 (hy 4 _ rfl y4 h4);have h0:DataW.trod enc Tryz.prog w base (fun _=>true) held m 22 (List.take (Tryz.prog.cellsOf 22) (List.drop 0 [a,b,c,d,e]))=some y0:=h0;rw[k22]at h0;have h1:DataW.trod enc Tryz.prog w base (fun _=>true) held m 23 (List.take (Tryz.prog.cellsOf 23) (List.drop 1 [a,b,c,d,e]))=some y1:=h1;rw[k23]at h1;have h2:DataW.trod enc Tryz.prog w base (fun _=>true) held m 23 (List.take (Tryz.prog.cellsOf 23) (List.drop 2 [a,b,c,d,e]))=some y2:=h2;rw[k23]at h2;have h3:DataW.trod enc Tryz.prog w base (fun _=>true) held m 24 (List.take (Tryz.prog.cellsOf 24) (List.drop 3 [a,b,c,d,e]))=some y3:=h3;rw[k24]at h3;have h4:DataW.trod enc Tryz.prog w base (fun _=>true) held m 25 (List.take (Tryz.prog.cellsOf 25) (List.drop 4 [a,b,c,d,e]))=some y4:=h4;rw[k25]at h4;have h0':DataW.trod enc Tryz.prog w base (fun _=>true) held m 22 [a]=some y0:=h0;have h1':DataW.trod enc Tryz.prog w base (fun _=>true) held m 23 [b]=some y1:=h1;have h2':DataW.trod enc Tryz.prog w base (fun _=>true) held m 23 [c]=some y2:=h2;have h3':DataW.trod enc Tryz.prog w base (fun _=>true) held m 24 [d]=some y3:=h3;have h4':DataW.trod enc Tryz.prog w base (fun _=>true) held m 25 [e]=some y4:=h4
  cases m with
  | zero=>simp[DataW.trod]at h0'
  | succ m=>
   obtain⟨l0,v0,e0,r0,f0,g0⟩:=wB (en:=qz) (good:=fun v=>Fits v.name) Tryz.underlying22 k50 (by omega) (fun y=>by simp[AV.atom]) (fun cs x h=>rdVar h) h0';obtain⟨l1,v1,e1,r1,f1,g1⟩:=wB (en:=qr) (good:=Wen) Tryz.underlying23 k57 (by omega) (fun y=>by rw[qd];simp[AV.atom]) (fun cs x h=>rdE m m (qqB _) h) h1';obtain⟨l2,v2,e2,r2,f2,g2⟩:=wB (en:=qr) (good:=Wen) Tryz.underlying23 k57 (by omega) (fun y=>by rw[qd];simp[AV.atom]) (fun cs x h=>rdE m m (qqB _) h) h2';obtain⟨l3,v3,e3,r3,f3,g3⟩:=wB (en:=zj) (good:=fun d=>Fits d.weights) Tryz.underlying24 k77 (by omega) (fun y=>by simp[AV.atom]) (fun cs x h=>rdDist h) h3';obtain⟨l4,v4,e4,r4,f4,g4⟩:=qky h4' h4w;cases e0;cases e1;cases e2;cases e3;cases e4;refine⟨⟨l0,l1,l2,l3,l4⟩,?_,⟨⟨g0,fun e he=>?_,f3,g3,f4,fun g hg=>(g4 g hg).1⟩,f0,f1,f2,fun g hg=>(g4 g hg).2⟩⟩
   . simp only[qD,qh];exact⟨_,_,rfl,r0,_,_,rfl,r1,_,_,rfl,r2,_,_,rfl,r3,_,_,rfl,r4,rfl⟩
   . rcases qqJ.1 he with he|he
     . exact g1 e he
     . exact g2 e he
theorem k42:Tryz.prog.cellsOf 47=2:=by kernel_rfl
theorem k40:Tryz.prog.cellsOf 45=1:=by kernel_rfl
theorem qmX {n:Nat}{c:Value}{y:DataW H×List MemPlace}(h:DataW.trod enc Tryz.prog w base (fun _=>true) held n 45 [c]=some y):∃ i:Int,c=.int .u64 i:=by
 obtain⟨i,e,_⟩:=DataW.trod_int Tryz.underlying45 h;exact⟨i,(List.cons.inj e).1⟩
theorem rdR {n:Nat}{cs:List Value}{x:DataW H×List MemPlace}(h:DataW.trod enc Tryz.prog w base (fun _=>true) held n 47 cs=some x):∃ r:Rng,qh (KMw w) (encR r) cs/\True:=by
 obtain⟨m,rfl,hl,hf⟩:=Q2 Tryz.underlying47 h;rw[k42]at hl
 match cs,hl with
 | [a,b],_=>
  obtain⟨y0,h0⟩:=hf 0 _ rfl;obtain⟨y1,h1⟩:=hf 1 _ rfl;have h0:DataW.trod enc Tryz.prog w base (fun _=>true) held m 45 (List.take (Tryz.prog.cellsOf 45) (List.drop 0 [a,b]))=some y0:=h0;have h1:DataW.trod enc Tryz.prog w base (fun _=>true) held m 45 (List.take (Tryz.prog.cellsOf 45) (List.drop 1 [a,b]))=some y1:=h1;rw[k40]at h0 h1;obtain⟨i,rfl⟩:=qmX (c:=a) h0;obtain⟨j,rfl⟩:=qmX (c:=b) h1;refine⟨(i,j),?_,trivial⟩;simp only[encR,qh];exact⟨_,_,rfl,rfl,_,_,rfl,rfl,rfl⟩
end
end
end Go.Proofs.YtkpkjbchlabaaaaGreatDoor
end
section
namespace Go.Proofs.YtkpkjbchlabaaaaGreatDoor
open Go Go.Abs Go.ChangeShapes Go.WideShapes Go.ChangeAt Go.RowKit
theorem qoN:ownKnob Tryz.prog.godebug=none:=by kernel_rfl
theorem YR:laidOutB Tryz.prog=true:=by kernel_rfl
theorem gKeyw : Tryz.prog.globalNamed "testbench/lexer.keywords" = some 0 := by kernel_rfl
theorem tKeyw:(Tryz.prog.globals[0]?).map (·.type)=some 182:=by kernel_rfl
/-- A list of texts that reads as a known one. -/
theorem qoA {H:Type}{enc:TypeId×Value->H}{w:World}{base:Nat}{held:Bool}{n:Nat}{cs:List Value}{p:List MemPlace}{K:List Str}
 (h:DataW.trod enc Tryz.prog w base (fun _=>true) held n 182 cs=some (.slice (K.map fun k=>.lit (.string k)) [],p)) (hK:K≠[]) :
 ∃ v,cs=[v]/\qg (KMw w) (.sl 1 (K.map ja) .none) v:=by
 have hs:∀ (m:Nat) (cs:List Value) (x:DataW H×List MemPlace),DataW.trod enc Tryz.prog w base (fun _=>true) held m 9 cs=some x->∃ k:Str,qh (KMw w) (ja k) cs/\x.1=.lit (.string k):=by
  intro m cs x h;obtain⟨s,rfl,rfl,_⟩:=DataW.trod_string Tryz.underlying9 h;refine⟨s.data.toList,?_,rfl⟩;simp only[ja,qh];exact⟨_,[],rfl,qcx,rfl⟩
 rcases DataW.trod_slice Tryz.underlying182 h with ⟨_,e⟩|⟨a,len,cap,elems,rest,m,hm,rfl,e,hb,hl,hc,hlen,hel',hsp,_⟩
 . simp at e
 simp only[Prod.mk.injEq,DataW.slice.injEq]at e;obtain⟨⟨e1,e2⟩,_⟩:=e;have hlK:len=K.length:=by rw[<- hlen];have:=congrArg List.length e1;simpa using this.symm
 have hK0:0<K.length:=qqI.2 hK;rw[k9]at hel';have one:∀ i (hi:i<K.length),∃ cs',w.cells? base (a.add (i*1)) 1=some cs'/\qh (KMw w) (ja K[i]) cs':=by
  intro i hi;have hh:=hel' i (by omega);rw[qqr (by omega)]at hh;obtain⟨cs',h1,h2⟩:=qrL.1 hh;obtain⟨k,h3,h4⟩:=hs m cs' _ h2;refine⟨cs',h1,?_⟩;have e3:(elems.map (·.1))[i]?=(K.map fun k=>(DataW.lit (.string k):DataW H))[i]? := by rw[e1]
  rw[qqO,qqO,qqr (by omega),qqr hi]at e3;simp only[qs0,Option.some.injEq]at e3;rw[h4]at e3;have e4:k=K[i]:=by simpa using e3
  rw[<- e4];exact h3
 have spot:a.spot=none:=by
  obtain⟨cs',h1,_⟩:=one 0 hK0;rw[qr1]at h1;obtain⟨_,hlen',hc'⟩:=World.cells?_some h1;have:=hc' 0 (by omega);rw[qqr (by omega)]at this
  cases hs:a.spot with
  | none=>rfl
  | some s=>
   simp only[Addr.add,if_true]at this;unfold World.cell? at this;rw[hs]at this;split at this<;>simp at this
 obtain⟨b,o,s⟩:=a;simp only at spot;subst spot;refine⟨_,rfl,?_⟩;simp only[qg];refine .inr ⟨b,o,cap,by simp[hlK],by simp;omega,qI.intro b 1 _ o fun i r e=>?_,trivial⟩;rw[qqO,qqw]at e;obtain⟨k,hk,rfl⟩:=e;obtain⟨hi,hk'⟩:=qqp.1 hk;obtain⟨cs',h1,h2⟩:=one i hi;rw[hk']at h2;obtain⟨_,hlen',hc'⟩:=World.cells?_some h1;obtain⟨g1,g2⟩:=qh.get h2;refine⟨rfl,rfl,ql.intro b _ _ fun j z hz=>?_⟩;have hj:j=0:=by
  have:=(qqp.1 hz).1;simp at this;exact this
 subst hj;obtain⟨v,hv1,hv2⟩:=g2 0 z hz;refine⟨v,?_,hv2⟩;have:=hc' 0 (by omega);rw[hv1]at this;show w.cell? ⟨b,o+i*1+0,none⟩=some v;rw[<- this];congr 1;simp only[Addr.add,if_true];by_cases hi0:i*1=0
 . rw[if_pos hi0,hi0];simp
 . rw[if_neg hi0];simp
abbrev qf0:List (String×DataW Unit):=Rows.randomExactRow.laid
/-- What the condition gives: the keywords. -/
theorem qoZ {W:World}(h:laidMetH Tryz.prog qf0 W):qg (KMw W) (.rptr [.sl 1 (qcb.map ja) .none]) (.pointer (some ⟨0,0,none⟩)):=by
 rw[MakeChecks.laidMetH_plain _ _ _ (by kernel_rfl)]at h;obtain⟨ps,⟨g0,t0,cs0,f0,p0,q0,_,_,_,_,⟨g1,t1,cs1,f1,p1,q1,_,_,_,_,⟨g2,t2,cs2,f2,p2,q2,_,_,_,_,⟨g3,t3,cs3,f3,p3,q3,hg,ht,hv,hd,_,_⟩,_⟩,_⟩,_⟩,_,_⟩:=h;obtain rfl:=Option.some.inj (gKeyw.symm.trans hg);obtain rfl:=Option.some.inj (tKeyw.symm.trans ht);obtain⟨v,e,hr⟩:=qoA (K:=qcb) hd (by decide);have hcell:W.cell? ⟨0,0,none⟩=some v:=by
  have:=World.var?_cell hg hv 0;rw[Array.eq_one_of_toList e]at this;simpa using this
 have hgoal:qg (KMw W) (.rptr [.sl 1 (qcb.map ja) .none]) (.pointer (some ⟨0,0,none⟩)):=by
  unfold qg;refine⟨0,0,rfl,?_⟩;unfold ql;exact⟨⟨v,hcell,hr⟩,by unfold ql;trivial⟩
 exact hgoal
theorem ql4 (os:Os)(args:Array Value):laidMetH Tryz.prog qf0 ((World.doorLaid Tryz.prog 400 os).forCall (fun _ _=>0) ⟨#[],args,[]⟩).memory :=
 laidMetH_of_parts3 (fuel:=8) (laidMet_of_run' 8 (by kernel_rfl) (by kernel_rfl)) (by kernel_rfl) (by kernel_rfl)
theorem qiq {W:World}(hL:laidMetH Tryz.prog qf0 W):∀ g,qg (KMw W) (GG g) (.pointer (some ⟨g,0,none⟩)):=by
 intro g
 cases g with
 | zero=>exact qoZ hL
 | succ g=>simp only[GG,qg]
end Go.Proofs.YtkpkjbchlabaaaaGreatDoor
end
