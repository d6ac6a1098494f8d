/- A part of the proof. -/
import Derived.Test.YtkpkjbchlabaaaaGreatDoorSa38
import Derived.Test.YtkpkjbchlabaaaaGreatDoorSa40
import Derived.SizedLaws
import Derived.Test.YtkpkjbchlabaaaaGreatDoorRows
import Derived.Test.YtkpkjbchlabaaaaGreatDoorTie
import Derived.Test.YtkpkjbchlabaaaaGreatDoorCards
import Derived.ProofKit
import Derived.LaidMore
import Derived.OpenShut
import Derived.Stop.Joined
import Derived.SevenTiedAt
import Derived.WideKeyArgs
import Derived.MakeChecks
set_option maxHeartbeats 16000000
set_option linter.unusedVariables false
set_option linter.unusedSimpArgs false
set_option maxRecDepth 100000
set_option linter.defProp false
section
namespace Go.Proofs.YtkpkjbchlabaaaaGreatDoor
open Go Go.Abs
def fxE (e:Nat×Nat×Nat):AV×AV×Nat:=(.int .i64 (e.1:Int),.int .i64 (e.2.1:Int),e.2.2)
def fxO:List (Nat×Nat×Nat)->Nat->Option Nat
 | [],_=>none
 | e::r,i=>if e.1=i then some e.2.1 else fxO r i
def yB (f:Nat->Option Nat)(i x:Nat):Nat->Option Nat:=fun k=>if k=i then some x else f k
theorem qcQ (i:Nat):∀ (E:List (Nat×Nat×Nat)) (k:Nat),(fxO E i=none/\jy (.int .i64 (i:Int)) (E.map fxE) k=some none/\∀ y c,fxO (E++[(i,y,c)])=yB (fxO E) i y) \/
 ∃ j x,fxO E i=some x/\jy (.int .i64 (i:Int)) (E.map fxE) k=some (some (k+j,.int .i64 (x:Int)))/\∀ y:Nat,∃ E':List (Nat×Nat×Nat),(E.map fxE).modify j (fun e=>(.int .i64 (i:Int),.int .i64 (y:Int),e.2.2))=E'.map fxE/\fxO E'=yB (fxO E) i y:=by
 intro E
 induction E with
 | nil=>
  intro k;refine .inl ⟨rfl,rfl,fun y c=>?_⟩;funext j;by_cases h:j=i
  . subst h;simp[fxO,yB]
  . simp[fxO,yB,h];exact fun e=>h e.symm
 | cons e r ih=>
  intro k;by_cases he:e.1=i
  . refine .inr ⟨0,e.2.1,by simp[fxO,he],?_,fun y=>⟨(i,y,e.2.2)::r,by simp[fxE,List.modify],?_⟩⟩
    . simp[fxE,jy,Qe,he]
    . funext j;by_cases h:j=i
      . subst h;simp[fxO,yB]
      . have h':¬ i=j:=fun e=>h e.symm
        simp[fxO,yB,h,h',he]
  . have hne:¬ (i:Int)=(e.1:Int):=(by omega);have hfind:jy (.int .i64 (i:Int)) ((e::r).map fxE) k=jy (.int .i64 (i:Int)) (r.map fxE) (k+1):=by
     have hb:((i:Int)==(e.1:Int))=false:=(by simpa using hne);simp[fxE,jy,Qe,hb]
    rcases ih (k+1) with ⟨h1,h2,h3⟩|⟨j,x,h1,h2,h3⟩
    . refine .inl ⟨by simp[fxO,he,h1],by rw[hfind,h2],fun y c=>?_⟩;funext a;have:=congrFun (h3 y c) a;simp only[yB]at this ⊢;by_cases ha:e.1=a
      . have hai:¬ a=i:=fun h=>he (ha.trans h)
        simp[fxO,ha,hai]
      . simp[fxO,ha,this]
    . refine .inr ⟨j+1,x,by simp[fxO,he,h1],by rw[hfind,h2,qsb,qrZ 1 j],fun y=>?_⟩;obtain⟨E',e1,e2⟩:=h3 y;refine⟨e::E',by simp[List.modify,<- e1],?_⟩;funext a;have:=congrFun e2 a;simp only[yB]at this ⊢;by_cases ha:e.1=a
      . have hai:¬ a=i:=fun h=>he (ha.trans h)
        simp[fxO,ha,hai]
      . simp[fxO,ha,this]
def FxS (F:Nat)(fx:Nat->Option Nat)(H:List Blk):Prop:=∃ E n,H[F]?=some (.map (E.map fxE) n)/\fxO E=fx
theorem FxS.ok {F:Nat}{fx:Nat->Option Nat}{H:List Blk}(h:FxS F fx H):qgo (.map F) fx H:=by
 obtain⟨E,n,h1,rfl⟩:=h;refine .inr ⟨F,_,n,rfl,h1,fun i=>?_⟩;rcases qcQ i E 0 with ⟨h1,h2,_⟩|⟨j,x,h1,h2,_⟩
 . rw[h1];exact h2
 . rw[h1];exact⟨_,h2⟩
theorem FxS.set {F:Nat}{fx:Nat->Option Nat}{H:List Blk}(h:FxS F fx H)(i y:Nat):∃ B,(∀ T,qZ (Dof Tryz.prog) ⟨H,T⟩ 106 (.map F) (.int .i64 (i:Int)) (.int .i64 (y:Int))=some ⟨H.set F B,T⟩)/\FxS F (yB fx i y) (H.set F B):=by
 obtain⟨E,n,h1,rfl⟩:=h;have hl:=(qqc.1 h1).1;rcases qcQ i E 0 with ⟨_,h2,h3⟩|⟨j,x,_,h2,h3⟩
 . refine⟨.map ((E++[(i,y,n)]).map fxE) (n+1),fun T=>by simp[qZ,zw,h1,h2,fxE],E++[(i,y,n)],n+1,qqh hl,h3 y n⟩
 . obtain⟨E',e1,e2⟩:=h3 y;rw[qrL]at h2;exact⟨.map (E'.map fxE) n,fun T=>by simp[qZ,zw,h1,h2,e1],E',n,qqh hl,e2⟩
theorem FxS.keep {F:Nat}{fx:Nat->Option Nat}{H H':List Blk}{bs:List Nat}(h:FxS F fx H)(hk:KpL bs H H')(hb:F∉bs):FxS F fx H':=by
 obtain⟨E,n,h1,h2⟩:=h;exact⟨E,n,hk.2 _ _ h1 hb,h2⟩
theorem FxS.ne {F N:Nat}{fx:Nat->Option Nat}{H:List Blk}{B:Blk}(h:FxS F fx H)(hb:N≠F):FxS F fx (H.set N B):=by
 obtain⟨E,n,h1,h2⟩:=h;exact⟨E,n,by rw[qqf hb];exact h1,h2⟩
theorem qak (f:Nat->Option Nat)(i x:Nat):yB f i x i=some x:=by simp[yB]
theorem qj0 (f:Nat->Option Nat)(i x y:Nat):yB (yB f i x) i y=yB f i y:=by
 funext k;by_cases h:k=i<;>simp[yB,h]
theorem FxS.get {F:Nat}{fx:Nat->Option Nat}{H:List Blk}(h:FxS F fx H){i x:Nat}(hx:fx i=some x)(T:List (Option Nat)):zm (Dof Tryz.prog) ⟨H,T⟩ 106 (.map F) (.int .i64 (i:Int)) false=some (.int .i64 (x:Int)):=by
 obtain⟨E,n,h1,rfl⟩:=h;rcases qcQ i E 0 with ⟨h2,_,_⟩|⟨j,x',h2,h3,_⟩
 . rw[hx]at h2;cases h2
 . rw[hx]at h2;cases h2;simp[zm,zw,h1,h3]
theorem qf2 (l:List Int):(l.map qt).flatten=zI l:=by
 induction l with
 | nil=>rfl
 | cons a r ih=>rw[qqp,qqW,ih];rfl
theorem qiX {r:AV}{a:List Int}{H:List Blk}(hr:AsR r a H)(ha:a≠[])(hl:a.length<=1000)(T:List (Option Nat)) :
 qf Tryz.prog GG 58 [r] ⟨H,T⟩ (fun v U'=>v=.ms H.length 0 a.length 1/\U'=⟨H++[.cells (zI a)],T⟩):=by
 refine qf.kO ⟨true,[],[],[]⟩ qe Tryz.func58 rfl (by kernel_rfl) ?_;rcases hr with ⟨tok,rfl⟩|⟨N,rfl,hA⟩
 . cases a with
   | nil=>exact absurd rfl ha
   | cons x a=>
    have h2:a.length+1<=549755813888:=(by simp at hl;omega);have h3:=qf2 (x::a);simp only[qqp]at h3;simp[-getElem?_pos,zx,jg,qU,WV,h2];exact h3
 . have h2:a.length<=549755813888:=(by omega);have h1:(zI a).take a.length=zI a:=qqk (by rw[za];exact qqn _);simp[-getElem?_pos,hA,zx,jg,qU,WV,za,h1,h2,ha]
theorem qlp {s:List Int}{x z:Int}:z∈qen s x↔z∈s\/z=x:=by
 have:∀ (s:List Int),z∈qgn s x↔z∈s\/z=x:=by
  intro s
  induction s with
  | nil=>simp[qgn]
  | cons y r ih=>
   unfold qgn;split
   . simp only[qqE,ih];constructor
     . rintro (h|h|h)<;>simp[h]
     . rintro ((h|h)|h)<;>simp[h]
   . simp only[qqE];constructor
     . rintro (h|h|h)<;>simp[h]
     . rintro ((h|h)|h)<;>simp[h]
 rw[qen,List.mem_reverse,this,List.mem_reverse]
theorem qa9 {z:Int}:∀ (n:Nat) (l:List Int),l.length=n->(z∈wg l↔z∈l):=by
 intro n
 induction n with
 | zero=>intro l h;rw[qqv h];rfl
 | succ n ih=>
  intro l h;have hne:l≠[]:=fun e=>by rw[e]at h;simp at h
  have e:=qsE hne;rw[<- e,Zw,qlp,ih _ (by simp[h])];simp
def yj (g:List Nat):List Nat:=(wg (g.map fun n:Nat=>(n:Int))).map Int.toNat
theorem qdJ (g:List Nat):wg (g.map fun n:Nat=>(n:Int))=(yj g).map fun n:Nat=>(n:Int):=by
 unfold yj;rw[qrz]
 symm
 conv=>rhs;rw[<- List.map_id (wg _)]
 refine qrk fun z hz=>?_
 rw[qa9 _ _ rfl]at hz;obtain⟨n,_,rfl⟩:=qqG.1 hz;rfl
theorem Yc {g:List Nat}{i:Nat}:i∈yj g↔i∈g:=by
 have:((i:Int)∈wg (g.map fun n:Nat=>(n:Int)))↔(i:Int)∈(g.map fun n:Nat=>(n:Int)):=qa9 _ _ rfl;rw[qdJ]at this;have key:∀ l:List Nat,((i:Int)∈l.map fun n:Nat=>(n:Int))↔i∈l:=fun l=>by
  rw[qqG];exact⟨fun ⟨n,hn,e⟩=>by
   have:n=i:=by omega
   exact this▸hn,fun h=>⟨i,h,rfl⟩⟩
 rwa[key,key]at this
theorem qau (g:List Nat):(yj g).length=g.length:=by
 unfold yj;rw[qqS,YN _ _ rfl,qqS]
def jU (F:Nat->Nat):Nat->Nat->Int->Nat×Int
 | 0,x,idx=>(x,idx)
 | n+1,x,idx=>if idx<F x then (x,idx) else if n=0 then (x,idx-F x) else jU F n (x+1) (idx-F x)
def wdN (p:Problem)(i:Nat):Nat:=match p.vars[i]? with | some v=>v.width.toNat | none=>0
noncomputable def chS (s:Spc)(d:List Nd)(a:List Int)(gi:Nat):List Nat->(Nat->Option Nat)->Int->List Int->List Int
 | [],_,_,out=>out
 | i::r,fx,idx,out=>
  let q:=jU (fun x=>WU s d (yB fx i x) a gi) (2 ^ wdN s.p i) 0 idx
  chS s d a gi r (yB fx i q.1) q.2 (out.set i q.1)
noncomputable def VE (s:Spc)(d:List Nd)(gi:Nat)(a:List Int)(idx:Int):List Int:=chS s d a gi (yj ((NG s.p).getD gi [])) (fun _=>none) idx a
def ChQ (out:List Int)(H:List Blk)(v:AV)(U':St):Prop:=KpL [] H U'.H/\∃ N,v=.ms N 0 out.length 1/\H.length<=N/\U'.H[N]?=some (.cells (zI out))
theorem qeK {s:Spc}{d:List Nd}(h:SpV s d)(hl12:(NG s.p).flatten.length<=12){gi:Nat}(hgi:gi<(NG s.p).length){r:AV}{a:List Int}{H:List Blk}(hao:AOk s.p a)(hal:a.length=s.p.vars.length)(hs:SpOk s H)(ha:AsR r a H)(T:List (Option Nat))
 {idx:Int} (hi0:0<=idx) (hi1:idx<2 ^ 62) :
 qf Tryz.prog GG 30 [.ptr s.S 0,.int .i64 gi,r,.int .i64 idx] ⟨H,T⟩ (ChQ (VE s d gi a idx) H):=by
 refine qf.k qe Tryz.func30 rfl (by kernel_rfl) ?_;obtain⟨g,hg⟩:∃ g,(NG s.p)[gi]?=some g:=⟨_,qqe hgi⟩;have hgd:(NG s.p).getD gi []=g:=by simp[qqm,hg]
 have hgm:=qqd hg;have hmf:∀ i∈g,i∈(NG s.p).flatten:=fun i hi=>qqM.2 ⟨g,hgm,hi⟩
 have hg12:g.length<=12:=by
  have:∀ (G:List (List Nat)),g∈G->g.length<=G.flatten.length:=by
   intro G
   induction G with
   | nil=>intro h;simp at h
   | cons x r ih=>
    intro h;rw[qqW,qqg];rcases qqE.1 h with rfl|h
    . omega
    . have:=ih h;omega
  exact qq6 (this _ hgm) hl12
 have hgne:g≠[]:=by
  obtain⟨g',hg',rfl⟩:=qqG.1 hgm;have:=(jN h.vp).1 g' hg';simpa using this
 have hane:a≠[]:=by
  intro e;obtain⟨i,r',rfl⟩:=qsK hgne;obtain⟨n,hn,_⟩:=hao i (hmf i (by simp));rw[e]at hn;simp at hn
 have hvl:=h.vq.vars;have hcl:=qiX ha hane (by omega) T;have hG:=WE h.vp;have hS:=hs.c;simp only[spE,qE,qqz,qqw,hG]at hS;have hgil:gi<s.p.groups.length:=by
  have:(NG s.p).length=s.p.groups.length:=by simp[NG]
  omega
 have hval:=qgF (g.map fun n:Nat=>(n:Int)) .none (by simp);have hsrt:=qfm (g.map fun n:Nat=>(n:Int)) (by simpa using hg12) .none;have hrw:Jl (g.map fun n:Nat=>(n:Int))=g.map zE:=by simp[Jl,zE]
 have hnr:zl (g.map zE)=true:=by rw[<- hrw];exact wy _
 rw[hrw]at hval hsrt;rw[qdJ,qrz]at hsrt;have hsm:((yj g).map (qt∘fun n:Nat=>(n:Int)))=(yj g).map zE:=by simp[qt,zE]
 rw[hsm]at hsrt;have hsl:(yj g).length<=12:=by rw[qau];exact hg12
 have hNl:(NG s.p).length=s.p.groups.length:=by simp[NG]
 unfold VE;rw[hgd];simp[-getElem?_pos];refine qc.acall hcl ?_;rintro v U ⟨rfl,rfl⟩;have hS1:=qa hS [.cells (zI a)];simp[-getElem?_pos,hS,hg,yf,qa];refine qc.call hval (by simp[hnr]) ?_;simp[-getElem?_pos];refine qc.call hsrt (by simp[hnr]) ?_;simp[-getElem?_pos];refine qX.listR (yj g) (fun dn ev U=>ev 0=.ptr s.S 0/\ev 1=.int .i64 gi/\ev 2=r/\ev 9=.ms H.length 0 a.length 1/\ev 10=.map (H.length+1)/\ev 27=.sl 1 ((yj g).map zE) .none/\ev 28=.int .i64 (yj g).length/\ev 29=.int .i64 dn.length /\
  ∃ (rest:List Nat) (fx:Nat->Option Nat) (ix:Int) (out:List Int),yj g=dn++rest/\ev 3=.int .i64 ix/\chS s d a gi rest fx ix out=chS s d a gi (yj g) (fun _=>none) idx a/\KpL [] H U.H/\U.H[H.length]?=some (.cells (zI out))/\FxS (H.length+1) fx U.H/\out.length=a.length/\0<=ix/\ix<2 ^ 62/\∀ i x,fx i=some x->x<65536) ?_ ?_ ?_
 . exact⟨by simp,by simp,by simp,by simp,by simp,by simp,by simp,by simp,yj g,fun _=>none,idx,a,rfl,by simp,rfl,KpL.app,by simp,⟨[],0,by simp,rfl⟩,rfl,hi0,hi1,by simp⟩
 . rintro dn i rest0 ev ⟨H1,T1⟩ R hR hd hx hlt ⟨e0,e1,e2,e9,e10,e27,e28,e29,rest,fx,ix,out,hre,e3,hch,hk,hN,hF,hol,hx0,hx1,hfx⟩;dsimp only at hk hN hF;have hre':rest=i::rest0:=by
    have:=hre.symm.trans hd;simpa using this
   subst hre';have hig:i∈g:=Yc.1 (qqd hx);obtain⟨v,l,hv,hw0,hw8,_,_,_⟩:=h.gr hmf i hig;have hvi:=(qqc.1 hv).1;have hwd:wdN s.p i=v.width.toNat:=(by unfold wdN;rw[hv]);have hs1:=Qp hw0 (by omega);have hwn:¬ v.width<0:=(by omega);have hp8:2 ^ v.width.toNat<=2 ^ 8:=qqJ (by omega) (by omega);have hp0:0<2 ^ v.width.toNat:=qsx _;obtain⟨W,hW⟩:∃ W,W=2 ^ v.width.toNat:=⟨_,rfl⟩;have hch':chS s d a gi rest0 (yB fx i (jU (fun x=>WU s d (yB fx i x) a gi) W 0 ix).1) (jU (fun x=>WU s d (yB fx i x) a gi) W 0 ix).2 (out.set i (jU (fun x=>WU s d (yB fx i x) a gi) W 0 ix).1)=chS s d a gi (yj g) (fun _=>none) idx a:=by
    rw[<- hch,hW,<- hwd];rfl
   rw[<- hW]at hs1 hp8 hp0;generalize hSF:(fun x=>WU s d (yB fx i x) a gi)=SF at *;have hSFx:∀ x,SF x=WU s d (yB fx i x) a gi:=fun x=>by rw[<- hSF]
   have hwl:=wr (n:=(dn.length:Int)+1) (by omega) (by omega);have hS1:=hk.2 _ _ hS (by simp);have hlt':(dn.length:Int)<(yj g).length:=(by omega);simp[-getElem?_pos,e0,e27,e28,e29,hlt',hx,zE,hS1,hv,hwn,IntKind.bits,hs1];refine qX.gen (fun n ev U=>ev 0=.ptr s.S 0/\ev 1=.int .i64 gi/\ev 2=r/\ev 9=.ms H.length 0 a.length 1/\ev 10=.map (H.length+1)/\ev 12=.int .i64 i/\ev 27=.sl 1 ((yj g).map zE) .none/\ev 28=.int .i64 (yj g).length/\ev 29=.int .i64 dn.length/\ev 42=.int .i64 W /\
    ∃ (x:Nat) (fc:Nat->Option Nat) (ic:Int),n=W-x/\ev 3=.int .i64 ic/\ev 43=.int .i64 x/\KpL [] H U.H/\U.H[H.length]?=some (.cells (zI out))/\FxS (H.length+1) fc U.H/\0<=ic/\ic<2 ^ 62/\(∀ i x,fc i=some x->x<65536) /\
     ((x<W/\jU SF W 0 ix=jU SF (W-x) x ic/\∀ y,yB fc i y=yB fx i y)\/(x=W/\jU SF W 0 ix=(W-1,ic)/\fc=yB fx i (W-1)))) W ?_ ?_
   . exact⟨by simp[e0],by simp[e1],by simp[e2],by simp[e9],by simp[e10],by simp,by simp[e27],by simp[e28],by simp[e29],by simp,0,fx,ix,by simp,by simp[e3],by simp,hk,hN,hF,hx0,hx1,hfx,.inl ⟨hp0,rfl,fun _=>rfl⟩⟩
   . rintro n ev ⟨H2,T2⟩ R2 hR2 ⟨e0,e1,e2,e9,e10,e12,e27,e28,e29,e42,x,fc,ic,rfl,e3,e43,hk,hN,hF,hc0,hc1,hfc,hcase⟩;dsimp only at hk hN hF;have hil:i<out.length:=(by omega);have hil':(i:Int)<(out.length:Int):=(by omega);have hial:(i:Int)<(a.length:Int):=(by omega);have hial1:i+1<=a.length:=(by omega);have tail:∀ (x:Nat) (ic:Int) (H3:List Blk) (T3:List (Option Nat)) (ev':Env),ev' 0=.ptr s.S 0->ev' 1=.int .i64 gi->ev' 2=r->ev' 9=.ms H.length 0 a.length 1->ev' 10=.map (H.length+1)->ev' 27=.sl 1 ((yj g).map zE) .none->ev' 28=.int .i64 (yj g).length->ev' 29=.int .i64 ((dn.length:Int)+1)->ev' 3=.int .i64 ic ->
      KpL [] H H3->H3[H.length]?=some (.cells (zI out))->FxS (H.length+1) (yB fx i x) H3->0<=ic->ic<2 ^ 62->x<65536->jU SF W 0 ix=(x,ic)->R ev' ⟨H3.set H.length (.cells (zI (out.set i x))),T3⟩:=by
      intro x ic H3 T3 ev' a0 a1 a2 a9 a10 a27 a28 a29 a3 bk bN bF b0 b1 bx hp;refine hR _ _ ⟨a0,a1,a2,a9,a10,a27,a28,by rw[a29];simp,rest0,yB fx i x,ic,out.set i x,by rw[hd];simp,a3,?_,bk.setF (qqn _),qqh (qqc.1 bN).1,bF.ne (by omega),by simp[hol],b0,b1,?_⟩
      . rw[<- hch',hp]
      . intro k y hy;unfold yB at hy;split at hy
        . have:x=y:=by simpa using hy
          omega
        . exact hfx k y hy
     rcases hcase with ⟨hxW,hpk,hup⟩|⟨hxW,hpk,hup⟩
     . have hxW':(x:Int)<W:=(by omega);have hwx:=wr (n:=(x:Int)+1) (by omega) (by omega);obtain⟨B,hB,hF'⟩:=hF.set i x;have hF'':=hF';rw[hup]at hF'';have hkB:=hk.setF (b:=H.length+1) (y:=B) (by omega);have hNB:(H2.set (H.length+1) B)[H.length]?=some (.cells (zI out)):=(by rw[qqf (by omega)];exact hN);have hfu:∀ k y,yB fx i x k=some y->y<65536:=fun k y hy=>by
        unfold yB at hy;split at hy
        . have:x=y:=by simpa using hy
          omega
        . exact hfx k y hy
       have hsu:=qmJ h hfu hgi hao (hs.keep hkB (by simp) (by simp) (by simp)) hF''.ok (ha.keep hkB (by simp)) T2;rw[<- hSFx]at hsu;have hpkx:jU SF (W-x) x ic=if ic<SF x then (x,ic) else if W-x-1=0 then (x,ic-SF x) else jU SF (W-x-1) (x+1) (ic-SF x):=by
        obtain⟨m,hm⟩:∃ m,W-x=m+1:=⟨W-x-1,by omega⟩;rw[hm];rfl
       have hSl:SF x<=lim:=(by rw[hSFx];exact qcl _ _ _ _ _);simp[-getElem?_pos,e0,e1,e2,e10,e12,e42,e43,hxW',hB];refine qc.acall hsu ?_;rintro v ⟨H3,T3⟩ ⟨rfl,hk3⟩;dsimp only at hk3;have hF3:=hF''.keep hk3 (by simp);have hN3:=hk3.2 _ _ hNB (by simp);have hkk:=hkB.trans hk3;have hget:=hF3.get (qak fx i x) T3;by_cases hlt2:ic<SF x
       . rw[if_pos hlt2]at hpkx;simp[-getElem?_pos,e3,e9,e10,e12,e29,hlt2,hget,hial,hial1,hN3,za,hol,yz,hwl];exact tail x ic H3 T3 _ (by simp[e0]) (by simp[e1]) (by simp[e2]) (by simp[e9]) (by simp[e10]) (by simp[e27]) (by simp[e28]) (by simp) (by simp[e3]) hkk hN3 hF3 hc0 hc1 (by omega) (by rw[hpk,hpkx])
       . rw[if_neg hlt2]at hpkx;have hws:=wr (n:=ic-(SF x:Int)) (by omega) (by omega);simp[-getElem?_pos,e3,e43,hlt2,hws,hwx];refine hR2 (W-(x+1)) _ _ (by omega) ⟨by simp[e0],by simp[e1],by simp[e2],by simp[e9],by simp[e10],by simp[e12],by simp[e27],by simp[e28],by simp[e29],by simp[e42],x+1,yB fx i x,ic-SF x,rfl,by simp,by simp,hkk,hN3,hF3,by omega,by omega,hfu,?_⟩;by_cases hlast:W-x-1=0
         . rw[if_pos hlast]at hpkx;refine .inr ⟨by omega,?_,?_⟩
           . rw[hpk,hpkx];congr 1;omega
           . congr 1;omega
         . rw[if_neg hlast]at hpkx;exact .inl ⟨by omega,by rw[hpk,hpkx];rfl,fun y=>qj0 _ _ _ _⟩
     . have hxW':¬ (x:Int)<W:=(by omega);subst hup;have hget:=hF.get (qak fx i (W-1)) T2;simp[-getElem?_pos,e9,e10,e12,e29,e42,e43,hxW,hget,hial,hial1,hN,za,hol,yz,hwl];exact tail (W-1) ic H2 T2 _ (by simp[e0]) (by simp[e1]) (by simp[e2]) (by simp[e9]) (by simp[e10]) (by simp[e27]) (by simp[e28]) (by simp) (by simp[e3]) hk hN hF hc0 hc1 (by omega) hpk
 . rintro ev ⟨H1,T1⟩ ⟨e0,e1,e2,e9,e10,e27,e28,e29,rest,fx,ix,out,hre,e3,hch,hk,hN,hF,hol,hx0,hx1,hfx⟩;dsimp only at hk hN hF;have hre':rest=[]:=(by simpa using hre);subst hre';rw[<- hch];simp[-getElem?_pos,e9,e28,e29];exact⟨hk,H.length,by simp[chS,hol],qqn _,hN⟩
def qjL (x d:Int):Int:=IntKind.u64.wrap (BitVec.ofInt 64 x ^^^ BitVec.ofInt 64 (x.fdiv d)).toNat
def finS (x:Int):Int:=qjL (IntKind.u64.wrap (qjL (IntKind.u64.wrap (qjL x 1073741824*13787848793156543929)) 134217728*10723151780598845931)) 2147483648
def mixS (x k:Int):Int:=finS (IntKind.u64.wrap (x+IntKind.u64.wrap (11400714819323198485*IntKind.u64.wrap (k+1))))
theorem fin370 (x:Int):Pure Tryz.prog GG 241 [.int .u64 x] (.int .u64 (finS x)):=by
 refine Pure.k qe Tryz.func241 rfl (by kernel_rfl) ?_;simp[-getElem?_pos,IntKind.bits];rfl
theorem mix293 (x k:Int):Pure Tryz.prog GG 178 [.int .u64 x,.int .u64 k] (.int .u64 (mixS x k)):=by
 refine Pure.k qe Tryz.func178 rfl (by kernel_rfl) ?_;simp[-getElem?_pos,IntKind.bits];refine qc.call (fin370 _) (by simp) ?_;simp[-getElem?_pos];rfl
abbrev Rng:=Int×Int
def wW (r:Rng):List AV:=[.int .u64 r.1,.int .u64 r.2]
def Ky (r:Rng):Int×Rng:=(mixS r.1 r.2,r.1,IntKind.u64.wrap (r.2+1))
theorem qoR (r:Rng):Pure Tryz.prog GG 124 [.agg (wW r)] (.tup [.int .u64 (Ky r).1,.agg (wW (Ky r).2)]):=by
 refine Pure.k qe Tryz.func124 rfl (by kernel_rfl) ?_;simp[-getElem?_pos,wW];refine qc.call (mix293 _ _) (by simp) ?_;simp[-getElem?_pos];exact⟨rfl,rfl,rfl⟩
theorem qga {R:Nat}(H:List Blk)(T:List (Option Nat)):qf Tryz.prog GG 72 [.ptr R 0] ⟨H,T⟩ (fun v U'=>v=.fn 123 [] [.ptr H.length 0]/\U'=⟨H++[.cells [.ptr R 0]],T⟩):=by
 refine qf.k qe Tryz.func72 rfl (by kernel_rfl) ?_;simp[-getElem?_pos]
theorem wrapU (n:Int):IntKind.u64.wrap n=n % 18446744073709551616:=by
 simp[IntKind.wrap,IntKind.signed,IntKind.bits]
def VA (cut:Int):Nat->Int->Rng->Int×Rng
 | 0,v,r=>(v,r)
 | k+1,_,r=>if cut=0\/(Ky r).1<IntKind.u64.wrap (0-cut) then Ky r else VA cut k (Ky r).1 (Ky r).2
def cutS (n:Int):Int:=(IntKind.u64.wrap (0-n)).tmod n
def kH (n:Int)(r:Rng):Int×Rng:=((VA (cutS n) 64 0 r).1.tmod n,(VA (cutS n) 64 0 r).2)
def qkK:List (Nat×Sch×List Nat):=[(6,.step 0 [10,9] (.step 1 [10,9,8,7,6,5,4,3,2] (.step 2 [10,9,8,7,6,5,4,3] (.step 3 [10,9,8,7,6,5,4] (.step 4 [10,9,8,7,6,5] (.step 5 [10,9,8,7,6] (.step 6 [10,9,8] (.step 7 [10,9] (.step 8 [10,9] (.step 9 [10] (.step 10 [] (.done))))))))))),[])]
def qot:List (Nat×Sch×List Nat):=[(4,.step 0 [4,3,2] (.step 1 [4,3] (.step 2 [4,3] (.step 3 [4] (.step 4 [] (.done))))),[])]
theorem ZK (cut:Int):∀ (k:Nat) (v:Int) (r:Rng),0<=v->v<18446744073709551616->0<=(VA cut k v r).1/\(VA cut k v r).1<18446744073709551616
 | 0,v,r,h0,h1=>⟨h0,h1⟩
 | k+1,v,r,h0,h1=>by
  have hn:0<=(Ky r).1/\(Ky r).1<18446744073709551616:=by
   unfold Ky mixS finS qjL;dsimp only;rw[wrapU];omega
  unfold VA;split
  . exact hn
  . exact ZK cut k _ _ hn.1 hn.2
def DrwQ (n:Int)(R:Nat)(r:Rng)(H:List Blk)(T:List (Option Nat))(v:AV)(U':St):Prop:=v=.int .i64 (kH n r).1/\U'=⟨H.set R (.cells (wW (kH n r).2)),T⟩
theorem qpA {n:Int}(h1:1<=n)(h2:n<=4611686018427387904){R C:Nat}{r:Rng}{H:List Blk}(hC:H[C]?=some (.cells [.ptr R 0]))(hR:H[R]?=some (.cells (wW r)))(hne:C≠R)(T:List (Option Nat)) :
 qf Tryz.prog GG 123 [.int .i64 n,.ptr C 0] ⟨H,T⟩ (DrwQ n R r H T):=by
 refine qf.kO ⟨false,qkK,[],[]⟩ qe Tryz.func123 rfl (by kernel_rfl) ?_;have hn0:¬ n=0:=by omega
 have hwn:=wru (n:=n) (by omega) (by omega);obtain⟨cut,hcut⟩:∃ cut,cut=cutS n:=⟨_,rfl⟩;have hcut':(IntKind.u64.wrap (0-n)).tmod n=cut:=by rw[hcut];rfl
 have hrl:=(qqc.1 hR).1;simp[-getElem?_pos,yK,unA,hn0,hwn];obtain⟨RES,hRES⟩:∃ RES,RES=VA cut 64 0 r:=⟨_,rfl⟩;have hcn:(IntKind.u64.wrap (-n)).tmod n=cut:=by simpa using hcut'
 have fin:∀ (v:Int) (rr:Rng),RES=(v,rr)->IntKind.i64.wrap (v.tmod n)=v.tmod n/\DrwQ n R r H T (.int .i64 (v.tmod n)) ⟨H.set R (.cells (wW rr)),T⟩:=fun v rr e=>by
  have hb:kH n r=(v.tmod n,rr):=by unfold kH;rw[<- hcut,<- hRES,e]
  have hv:=ZK cut 64 0 r (by omega) (by omega);rw[<- hRES,e]at hv;have h3:v.tmod n=v % n:=qsl hv.1;have h4:=Int.emod_nonneg v hn0;have h5:=Int.emod_lt_of_pos v (by omega:0<n);refine⟨by rw[h3];exact wr (by omega) (by omega),?_⟩;unfold DrwQ;rw[hb];exact⟨rfl,rfl⟩
 refine qX.gen (fun m ev U=>ev 1=.ptr C 0/\ev 4=.int .u64 n/\ev 5=.int .u64 cut/\∃ (i:Nat) (v:Int) (rr:Rng),m=64-i/\i<=64/\ev 13=.int .i64 i/\ev 6=.int .u64 v/\VA cut (64-i) v rr=RES/\U=⟨H.set R (.cells (wW rr)),T⟩) 64 ?_ ?_
 . refine⟨by simp,by simp,by simp[hcn],0,0,r,rfl,by omega,by simp,by simp,hRES.symm,?_⟩;congr 1;apply qq3;intro j;by_cases hj:R=j
   . subst hj;rw[qqh hrl,hR]
   . rw[qqf hj]
 . rintro m ev U R0 hR0 ⟨e1,e4,e5,i,v,rr,rfl,hi,e13,e6,hd,rfl⟩;have bC:∀ y,(H.set R y)[C]?=some (.cells [.ptr R 0]):=fun y=>by rw[qqf (Ne.symm hne)];exact hC
   have bR:∀ y,(H.set R y)[R]?=some y:=fun y=>qqh hrl
   by_cases h64:i<64
   . have h64':(i:Int)<64:=(by omega);obtain⟨k,hk⟩:∃ k,64-i=k+1:=⟨63-i,by omega⟩;have hwi:=wr (n:=(i:Int)+1) (by omega) (by omega);rw[hk]at hd hR0;unfold VA at hd;obtain⟨x,r',hx⟩:∃ x r',Ky rr=(x,r'):=⟨_,_,rfl⟩;have hnx:=qoR rr;rw[hx]at hd hnx;dsimp only at hd hnx;simp only[wW]at hnx bR;simp[-getElem?_pos,e1,e4,e5,e6,e13,h64'];rw[qG rfl];simp[-getElem?_pos,qN,e1,e4,e5,e6,e13,bC,bR,wW];refine qc.call hnx (by simp) ?_;by_cases hc:cut=0
     . rw[if_pos (.inl hc)]at hd;obtain⟨hw,hq⟩:=fin x r' hd.symm;simp[-getElem?_pos,qN,e1,e4,e5,e6,e13,bC,bR,wW,hrl,hc,unA,hn0,hw,yK];exact hq
     by_cases hlt:x<IntKind.u64.wrap (0-cut)
     . rw[if_pos (.inr hlt)]at hd;obtain⟨hw,hq⟩:=fin x r' hd.symm;have hlt':x<IntKind.u64.wrap (-cut):=(by simpa using hlt);simp[-getElem?_pos,qN,e1,e4,e5,e6,e13,bC,bR,wW,hrl,hc,unA,hn0,hw,yK,hlt,hlt'];exact hq
     . rw[if_neg (fun h=>h.elim hc hlt)]at hd;have hlt':¬ x<IntKind.u64.wrap (-cut):=(by simpa using hlt);simp[-getElem?_pos,qN,e1,e4,e5,e6,e13,bC,bR,wW,hrl,hc,unA,hn0,yK,hlt,hlt',hwi];refine hR0 k _ _ (by omega) ⟨by simp[e1],by simp[e4],by simp[e5],i+1,x,r',by omega,by omega,by simp,by simp,?_,rfl⟩;rw[<- hd];congr 1;omega
   . have h64':¬ (i:Int)<64:=(by omega);have hi0:64-i=0:=(by omega);rw[hi0]at hd;obtain⟨hw,hq⟩:=fin v rr hd.symm;simp[-getElem?_pos,e1,e4,e5,e6,e13,h64',yK,hn0,hw];exact hq
def j4 (n:Int)(r:Rng):Int×Rng×Int:=if n<1\/4611686018427387904<n then (0,(0,0),1) else ((kH n r).1,(kH n r).2,0)
def tupB (q:Int×Rng×Int):AV:=.tup [.int .i64 q.1,.agg (wW q.2.1),.int .i64 q.2.2]
theorem qqa (n:Int)(r:Rng):Pure Tryz.prog GG 37 [.agg (wW r),.int .i64 n] (tupB (j4 n r)):=by
 refine Pure.kO ⟨false,qot,[],[]⟩ true qe Tryz.func37 rfl (by kernel_rfl) ?_;by_cases h1:n<1
 . have e:j4 n r=(0,(0,0),1):=if_pos (.inl h1);rw[e];simp[-getElem?_pos,h1,tupB,wW];rw[qI (by rfl)];exact⟨rfl,Leq.refl _⟩
 by_cases h2:4611686018427387904<n
 . have e:j4 n r=(0,(0,0),1):=if_pos (.inr h2);rw[e];simp[-getElem?_pos,h1,h2,tupB,wW];rw[qI (by rfl)];exact⟨rfl,Leq.refl _⟩
 have e:j4 n r=((kH n r).1,(kH n r).2,0):=if_neg (fun h=>h.elim h1 h2);rw[e];simp[-getElem?_pos,h1,h2,wW];refine qc.acall (qga _ _) ?_;rintro v U ⟨rfl,rfl⟩;simp[-getElem?_pos];refine qc.acall (qpA (r:=r) (R:=0) (C:=2) (by omega) (by omega) (by simp) (by simp[wW]) (by simp) _) ?_;rintro v U ⟨rfl,rfl⟩;simp[-getElem?_pos,wW];rw[qG rfl];simp[-getElem?_pos,qN,tupB,wW];rw[qI (by rfl)];exact⟨rfl,Leq.refl _⟩
section
section
variable {H:Type}{enc:TypeId×Value->H}{w:World}{base:Nat}{held:Bool}
theorem QR {fs:Array Field}{t n:Nat}{cs:List Value}{x:DataW H×List MemPlace}(ht:Tryz.prog.underlying t=some (.struct fs))(h:DataW.trod enc Tryz.prog w base (fun _=>true) held n t cs=some x) :
 ∃ m,n=m+1/\cs.length=Tryz.prog.cellsOf t/\∀ (i:Nat) (f:Field),fs[i]?=some f->∃ y,DataW.trod enc Tryz.prog w base (fun _=>true) held m f.type ((cs.drop f.offset).take (Tryz.prog.cellsOf f.type))=some y:=by
 obtain⟨xs,m,rfl,rfl,hl,hlen,hf⟩:=DataW.trod_struct ht h;refine⟨m,rfl,hl,fun i f hi=>?_⟩;have hlt:i<fs.size:=(qqX.1 hi).1;exact⟨xs[i]'(by omega),by rw[hf i f hi,qqe]⟩
theorem qhi {fs:Array Field}{t n:Nat}{cs:List Value}{x:DataW H×List MemPlace}(ht:Tryz.prog.underlying t=some (.struct fs))(h:DataW.trod enc Tryz.prog w base (fun _=>true) held n t cs=some x) :
 ∃ m,n=m+1/\cs.length=Tryz.prog.cellsOf t/\(∀ (i:Nat) (f:Field),fs[i]?=some f->∃ y,DataW.trod enc Tryz.prog w base (fun _=>true) held m f.type ((cs.drop f.offset).take (Tryz.prog.cellsOf f.type))=some y) /\
  ∀ (i:Nat) (f:Field),fs[i]?=some f->∀ y,DataW.trod enc Tryz.prog w base (fun _=>true) held m f.type ((cs.drop f.offset).take (Tryz.prog.cellsOf f.type))=some y->∃ xs:List (DataW H×List MemPlace),x.1=.agg (xs.map (·.1))/\xs.length=fs.size/\xs[i]?=some y:=by
 obtain⟨xs,m,rfl,rfl,hl,hlen,hf⟩:=DataW.trod_struct ht h;refine⟨m,rfl,hl,fun i f hi=>?_,fun i f hi y hy=>⟨xs,rfl,hlen,?_⟩⟩
 . have hlt:i<fs.size:=(qqX.1 hi).1;exact⟨xs[i]'(by omega),by rw[hf i f hi,qqe]⟩
 . rw[<- hf i f hi,hy]
theorem k3:Tryz.prog.cellsOf 3=1:=by kernel_rfl
theorem k4:Tryz.prog.cellsOf 4=1:=by kernel_rfl
theorem k9:Tryz.prog.cellsOf 9=1:=by kernel_rfl
theorem k37:Tryz.prog.cellsOf 28=1:=by kernel_rfl
theorem k22:Tryz.prog.cellsOf 22=1:=by kernel_rfl
theorem k23:Tryz.prog.cellsOf 23=1:=by kernel_rfl
theorem k24:Tryz.prog.cellsOf 24=1:=by kernel_rfl
theorem k25:Tryz.prog.cellsOf 25=1:=by kernel_rfl
theorem k27:Tryz.prog.cellsOf 27=5:=by kernel_rfl
theorem k57:Tryz.prog.cellsOf 52=4:=by kernel_rfl
theorem k50:Tryz.prog.cellsOf 61=4:=by kernel_rfl
theorem k75:Tryz.prog.cellsOf 54=1:=by kernel_rfl
theorem k77:Tryz.prog.cellsOf 56=2:=by kernel_rfl
theorem k145:Tryz.prog.cellsOf 136=4:=by kernel_rfl
theorem qcm {s:ByteArray}:qg (KMw w) (.str s.data.toList) (.string s):=by
 obtain⟨d⟩:=s;unfold qg;show Value.string ⟨d⟩=Value.string ⟨d.toList.toArray⟩;rw[qr8]
theorem QQ {n:Nat}{c:Value}{y:DataW H×List MemPlace}(h:DataW.trod enc Tryz.prog w base (fun _=>true) held n 3 [c]=some y):∃ i:Int,c=.int .i64 i:=by
 obtain⟨i,e,_⟩:=DataW.trod_int Tryz.underlying3 h;exact⟨i,(List.cons.inj e).1⟩
theorem qom {n:Nat}{c:Value}{y:DataW H×List MemPlace}(h:DataW.trod enc Tryz.prog w base (fun _=>true) held n 4 [c]=some y):∃ i:Bool,c=.bool i:=by
 obtain⟨i,e,_⟩:=DataW.trod_bool Tryz.underlying4 h;exact⟨i,(List.cons.inj e).1⟩
theorem qmP {n:Nat}{c:Value}{y:DataW H×List MemPlace}(h:DataW.trod enc Tryz.prog w base (fun _=>true) held n 9 [c]=some y):∃ s:ByteArray,c=.string s/\Fits s.data.toList:=by
 obtain⟨s,e,_,hs⟩:=DataW.trod_string Tryz.underlying9 h;refine⟨s,(List.cons.inj e).1,?_⟩;have:s.data.toList.length=s.size:=qrc;rw[Fits,this];simp only[maxLen]at hs;omega
theorem rdVar {n:Nat}{cs:List Value}{x:DataW H×List MemPlace}(h:DataW.trod enc Tryz.prog w base (fun _=>true) held n 61 cs=some x):∃ v:Var,qh (KMw w) (qA v) cs/\Fits v.name:=by
 obtain⟨m,rfl,hl,hf⟩:=QR Tryz.underlying61 h;rw[k50]at hl
 match cs,hl with
 | [a,b,c,d],_=>
  obtain⟨y0,h0⟩:=hf 0 _ rfl;obtain⟨y1,h1⟩:=hf 1 _ rfl;obtain⟨y2,h2⟩:=hf 2 _ rfl;obtain⟨y3,h3⟩:=hf 3 _ rfl;have h0:DataW.trod enc Tryz.prog w base (fun _=>true) held m 9 (List.take (Tryz.prog.cellsOf 9) (List.drop 0 [a,b,c,d]))=some y0:=h0;rw[k9]at h0;have h1:DataW.trod enc Tryz.prog w base (fun _=>true) held m 3 (List.take (Tryz.prog.cellsOf 3) (List.drop 1 [a,b,c,d]))=some y1:=h1;rw[k3]at h1;have h2:DataW.trod enc Tryz.prog w base (fun _=>true) held m 3 (List.take (Tryz.prog.cellsOf 3) (List.drop 2 [a,b,c,d]))=some y2:=h2;rw[k3]at h2;have h3:DataW.trod enc Tryz.prog w base (fun _=>true) held m 3 (List.take (Tryz.prog.cellsOf 3) (List.drop 3 [a,b,c,d]))=some y3:=h3;rw[k3]at h3;obtain⟨s,rfl,hs⟩:=qmP (c:=a) h0;obtain⟨i1,rfl⟩:=QQ (c:=b) h1;obtain⟨i2,rfl⟩:=QQ (c:=c) h2;obtain⟨i3,rfl⟩:=QQ (c:=d) h3;refine⟨⟨s.data.toList,i1,i2,i3⟩,?_,hs⟩;simp only[qA,qh];exact⟨_,_,rfl,qcm,_,_,rfl,by simp[qg],_,_,rfl,by simp[qg],_,_,rfl,by simp[qg],rfl⟩
theorem qkj {n:Nat}{cs:List Value}{x:DataW H×List MemPlace}(h:DataW.trod enc Tryz.prog w base (fun _=>true) held n 136 cs=some x):∃ v:Weight,qh (KMw w) (qC v) cs/\True:=by
 obtain⟨m,rfl,hl,hf⟩:=QR Tryz.underlying136 h;rw[k145]at hl
 match cs,hl with
 | [a,b,c,d],_=>
  obtain⟨y0,h0⟩:=hf 0 _ rfl;obtain⟨y1,h1⟩:=hf 1 _ rfl;obtain⟨y2,h2⟩:=hf 2 _ rfl;obtain⟨y3,h3⟩:=hf 3 _ rfl;have h0:DataW.trod enc Tryz.prog w base (fun _=>true) held m 3 (List.take (Tryz.prog.cellsOf 3) (List.drop 0 [a,b,c,d]))=some y0:=h0;rw[k3]at h0;have h1:DataW.trod enc Tryz.prog w base (fun _=>true) held m 3 (List.take (Tryz.prog.cellsOf 3) (List.drop 1 [a,b,c,d]))=some y1:=h1;rw[k3]at h1;have h2:DataW.trod enc Tryz.prog w base (fun _=>true) held m 3 (List.take (Tryz.prog.cellsOf 3) (List.drop 2 [a,b,c,d]))=some y2:=h2;rw[k3]at h2;have h3:DataW.trod enc Tryz.prog w base (fun _=>true) held m 4 (List.take (Tryz.prog.cellsOf 4) (List.drop 3 [a,b,c,d]))=some y3:=h3;rw[k4]at h3;obtain⟨i0,rfl⟩:=QQ (c:=a) h0;obtain⟨i1,rfl⟩:=QQ (c:=b) h1;obtain⟨i2,rfl⟩:=QQ (c:=c) h2;obtain⟨i3,rfl⟩:=qom (c:=d) h3;refine⟨⟨i0,i1,i2,i3⟩,?_,trivial⟩;simp[qh,qg]
theorem rdDist {n:Nat}{cs:List Value}{x:DataW H×List MemPlace}(h:DataW.trod enc Tryz.prog w base (fun _=>true) held n 56 cs=some x):∃ v:Dist,qh (KMw w) (zH v) cs/\Fits v.weights:=by
 obtain⟨m,rfl,hl,hf⟩:=QR Tryz.underlying56 h;rw[k77]at hl
 match cs,hl with
 | [a,b],_=>
  obtain⟨y0,h0⟩:=hf 0 _ rfl;obtain⟨y1,h1⟩:=hf 1 _ rfl;have h0:DataW.trod enc Tryz.prog w base (fun _=>true) held m 3 (List.take (Tryz.prog.cellsOf 3) (List.drop 0 [a,b]))=some y0:=h0;rw[k3]at h0;have h1:DataW.trod enc Tryz.prog w base (fun _=>true) held m 54 (List.take (Tryz.prog.cellsOf 54) (List.drop 1 [a,b]))=some y1:=h1;rw[k75]at h1;obtain⟨i0,rfl⟩:=QQ (c:=a) h0;have h1':DataW.trod enc Tryz.prog w base (fun _=>true) held m 54 [b]=some y1:=h1
  cases m with
  | zero=>simp[DataW.trod]at h1'
  | succ m=>
   obtain⟨l,v,e,hv,hfl,_⟩:=wz (en:=qC) (good:=fun _=>True) Tryz.underlying54 k145 (by omega) (fun y=>by simp[AV.atom]) (fun cs x h=>qkj h) h1';cases e;refine⟨⟨i0,l⟩,?_,hfl⟩;simp only[zH,qh,qg];exact⟨_,_,rfl,rfl,_,[],rfl,by simpa only[qg] using hv,rfl⟩
theorem rdInts {n:Nat}{cs:List Value}{x:DataW H×List MemPlace}(h:DataW.trod enc Tryz.prog w base (fun _=>true) held n 28 cs=some x):∃ l:List Int,qh (KMw w) (zG l) cs/\Fits l:=by
 cases n with
 | zero=>simp[DataW.trod]at h
 | succ m=>
  obtain⟨l,v,rfl,hv,hfl,_⟩:=wz (en:=qt) (good:=fun _=>True) Tryz.underlying28 k3 (by omega) (fun y=>by simp[AV.atom]) (fun cs x h=>by
   obtain⟨i,e,_⟩:=DataW.trod_int Tryz.underlying3 h;exact⟨i,by rw[e];simp[qh,qg],trivial⟩) h
  refine⟨l,?_,hfl⟩;simp only[zG,qh];exact⟨v,[],rfl,hv,rfl⟩
theorem rdE:∀ (N n:Nat),n<=N->∀ {cs:List Value} {x:DataW H×List MemPlace},DataW.trod enc Tryz.prog w base (fun _=>true) held n 52 cs=some x->∃ e:Ex,qh (KMw w) (qr e) cs/\Wen e:=by
 intro N
 induction N with
 | zero=>
  intro n hn cs x h;have:n=0:=by omega
  subst this;simp[DataW.trod]at h
 | succ N ih=>
  intro n hn cs x h;obtain⟨m,rfl,hl,hf⟩:=QR Tryz.underlying52 h;rw[k57]at hl
  match cs,hl with
  | [a,b,c,d],_=>
   obtain⟨y0,h0⟩:=hf 0 _ rfl;obtain⟨y1,h1⟩:=hf 1 _ rfl;obtain⟨y2,h2⟩:=hf 2 _ rfl;obtain⟨y3,h3⟩:=hf 3 _ rfl;have h0:DataW.trod enc Tryz.prog w base (fun _=>true) held m 3 (List.take (Tryz.prog.cellsOf 3) (List.drop 0 [a,b,c,d]))=some y0:=h0;rw[k3]at h0;have h1:DataW.trod enc Tryz.prog w base (fun _=>true) held m 3 (List.take (Tryz.prog.cellsOf 3) (List.drop 1 [a,b,c,d]))=some y1:=h1;rw[k3]at h1;have h2:DataW.trod enc Tryz.prog w base (fun _=>true) held m 9 (List.take (Tryz.prog.cellsOf 9) (List.drop 2 [a,b,c,d]))=some y2:=h2;rw[k9]at h2;have h3:DataW.trod enc Tryz.prog w base (fun _=>true) held m 23 (List.take (Tryz.prog.cellsOf 23) (List.drop 3 [a,b,c,d]))=some y3:=h3;rw[k23]at h3;obtain⟨i0,rfl⟩:=QQ (c:=a) h0;obtain⟨i1,rfl⟩:=QQ (c:=b) h1;obtain⟨s,rfl,hs⟩:=qmP (c:=c) h2;have h3':DataW.trod enc Tryz.prog w base (fun _=>true) held m 23 [d]=some y3:=h3
   cases m with
   | zero=>simp[DataW.trod]at h3'
   | succ m=>
    obtain⟨l,v,e,hv,hfl,hg⟩:=wz (en:=qr) (good:=Wen) Tryz.underlying23 k57 (by omega) (fun y=>by rw[qd];simp[AV.atom]) (fun cs x h=>ih m (by omega) h) h3';cases e;refine⟨.mk i0 i1 s.data.toList l,?_,?_⟩
    . rw[qd];simp only[qh,Ex.op_mk,Ex.n_mk,Ex.name_mk,Ex.args_mk];exact⟨_,_,rfl,by simp[qg],_,_,rfl,by simp[qg],_,_,rfl,qcm,_,[],rfl,hv,rfl⟩
    . intro y hy;rw[jr]at hy;rcases qqE.1 hy with rfl|hy
      . exact⟨hfl,hs⟩
      . obtain⟨a,ha,hya⟩:=QX.1 hy;exact hg a ha y hya
theorem b3:Tryz.prog.bytesOf 3=8:=by kernel_rfl
theorem w_all {P:Program}{e:TypeId}:∀ {E:List (DataW H)} {d:DataW H},d∈E->∀ k∈d.weights P e,k∈DataW.weightsAll P e E
 | [],_,h,_,_=>nomatch h
 | a::r,d,h,k,hk=>by
  simp only[DataW.weightsAll,qqA];rcases qqE.1 h with rfl|h
  . exact .inl hk
  . exact .inr (w_all h k hk)
theorem qkk {n:Nat}{cs:List Value}{x:DataW H×List MemPlace}(h:DataW.trod enc Tryz.prog w base (fun _=>true) held (n+1) 25 cs=some x)(hw:∀ k∈x.1.weights Tryz.prog 25,k<=reachBytes) :
 ∃ (l:List (List Int)) (v:Value),cs=[v]/\qg (KMw w) (.sl 1 (l.map zG) .none) v/\Fits l/\∀ y∈l,Fits y/\y.length<17592186044416:=by
 obtain⟨l,v,h1,h2,h3,h4,_⟩:=Yq (en:=zG) (good:=fun g=>Fits g/\g.length<17592186044416) (X:=fun d=>∀ k∈d.weights Tryz.prog 28,k<=reachBytes) Tryz.underlying25 k37 (by omega) (fun y=>by simp[AV.atom]) (fun cs x h hx=>by
  cases n with
  | zero=>simp[DataW.trod]at h
  | succ m=>
   obtain⟨l,v,rfl,hv,hfl,_,hN⟩:=Yq (en:=qt) (good:=fun _=>True) (X:=fun _=>True) Tryz.underlying28 k3 (by omega) (fun y=>by simp[AV.atom]) (fun cs x h _=>by
    obtain⟨i,e,_⟩:=DataW.trod_int Tryz.underlying3 h;exact⟨i,by rw[e];simp[qh,qg],trivial⟩) h (fun _ _ _ _ _=>trivial)
   refine⟨l,?_,hfl,?_⟩
   . simp only[zG,qh];exact⟨v,[],rfl,hv,rfl⟩
   . have:=hN 17592186044415 fun E S e=>by
      have:=hx ((E.length+S.length)*Tryz.prog.bytesOf 3) (by rw[e];simp only[DataW.weights,Tryz.underlying28];exact qr2);rw[b3]at this;simp only[reachBytes]at this;omega
     omega) h (fun E S e d hd k hk=>hw k (by
      rw[e];simp only[DataW.weights,Tryz.underlying25];exact qrJ _ (qq5 _ (w_all hd k hk))))
 exact⟨l,v,h1,h2,h3,h4⟩
theorem rdP {n:Nat}{cs:List Value}{x:DataW H×List MemPlace}(h:DataW.trod enc Tryz.prog w base (fun _=>true) held n 27 cs=some x)(hw:∀ k∈x.1.weights Tryz.prog 27,k<=reachBytes):∃ p:Problem,qh (KMw w) (qE p) cs/\VM p:=by
 have hx:∀ y4,(∃ xs:List (DataW H×List MemPlace),x.1=.agg (xs.map (·.1))/\xs.length=5/\xs[4]?=some y4)->∀ k∈y4.1.weights Tryz.prog 25,k<=reachBytes:=by
  rintro y4 ⟨xs,e,hl,h4⟩ k hk;refine hw k ?_;rw[e]
  match xs,hl with
  | [a,b,c,d,e],_=>
   simp at h4;subst h4;simp only[DataW.weights,Tryz.underlying27,qqp,qqU,DataW.weightsEach,qqA];exact .inr (.inr (.inr (.inr (.inl hk))))
 obtain⟨m,rfl,hl,hf,hy⟩:=qhi Tryz.underlying27 h;rw[k27]at hl
 match cs,hl with
 | [a,b,c,d,e],_=>
  obtain⟨y0,h0⟩:=hf 0 _ rfl;obtain⟨y1,h1⟩:=hf 1 _ rfl;obtain⟨y2,h2⟩:=hf 2 _ rfl;obtain⟨y3,h3⟩:=hf 3 _ rfl;obtain⟨y4,h4⟩:=hf 4 _ rfl;have h4w:=hx y4 (hy 4 _ rfl y4 h4);have h0:DataW.trod enc Tryz.prog w base (fun _=>true) held m 22 (List.take (Tryz.prog.cellsOf 22) (List.drop 0 [a,b,c,d,e]))=some y0:=h0;rw[k22]at h0;have h1:DataW.trod enc Tryz.prog w base (fun _=>true) held m 23 (List.take (Tryz.prog.cellsOf 23) (List.drop 1 [a,b,c,d,e]))=some y1:=h1;rw[k23]at h1;have h2:DataW.trod enc Tryz.prog w base (fun _=>true) held m 23 (List.take (Tryz.prog.cellsOf 23) (List.drop 2 [a,b,c,d,e]))=some y2:=h2;rw[k23]at h2;have h3:DataW.trod enc Tryz.prog w base (fun _=>true) held m 24 (List.take (Tryz.prog.cellsOf 24) (List.drop 3 [a,b,c,d,e]))=some y3:=h3;rw[k24]at h3;have h4:DataW.trod enc Tryz.prog w base (fun _=>true) held m 25 (List.take (Tryz.prog.cellsOf 25) (List.drop 4 [a,b,c,d,e]))=some y4:=h4;rw[k25]at h4;have h0':DataW.trod enc Tryz.prog w base (fun _=>true) held m 22 [a]=some y0:=h0;have h1':DataW.trod enc Tryz.prog w base (fun _=>true) held m 23 [b]=some y1:=h1;have h2':DataW.trod enc Tryz.prog w base (fun _=>true) held m 23 [c]=some y2:=h2;have h3':DataW.trod enc Tryz.prog w base (fun _=>true) held m 24 [d]=some y3:=h3;have h4':DataW.trod enc Tryz.prog w base (fun _=>true) held m 25 [e]=some y4:=h4
  cases m with
  | zero=>simp[DataW.trod]at h0'
  | succ m=>
   obtain⟨l0,v0,e0,r0,f0,g0⟩:=wz (en:=qA) (good:=fun v=>Fits v.name) Tryz.underlying22 k50 (by omega) (fun y=>by simp[AV.atom]) (fun cs x h=>rdVar h) h0';obtain⟨l1,v1,e1,r1,f1,g1⟩:=wz (en:=qr) (good:=Wen) Tryz.underlying23 k57 (by omega) (fun y=>by rw[qd];simp[AV.atom]) (fun cs x h=>rdE m m (qqn _) h) h1';obtain⟨l2,v2,e2,r2,f2,g2⟩:=wz (en:=qr) (good:=Wen) Tryz.underlying23 k57 (by omega) (fun y=>by rw[qd];simp[AV.atom]) (fun cs x h=>rdE m m (qqn _) h) h2';obtain⟨l3,v3,e3,r3,f3,g3⟩:=wz (en:=zH) (good:=fun d=>Fits d.weights) Tryz.underlying24 k77 (by omega) (fun y=>by simp[AV.atom]) (fun cs x h=>rdDist h) h3';obtain⟨l4,v4,e4,r4,f4,g4⟩:=qkk h4' h4w;cases e0;cases e1;cases e2;cases e3;cases e4;refine⟨⟨l0,l1,l2,l3,l4⟩,?_,⟨⟨g0,fun e he=>?_,f3,g3,f4,fun g hg=>(g4 g hg).1⟩,f0,f1,f2,fun g hg=>(g4 g hg).2⟩⟩
   . simp only[qE,qh];exact⟨_,_,rfl,r0,_,_,rfl,r1,_,_,rfl,r2,_,_,rfl,r3,_,_,rfl,r4,rfl⟩
   . rcases qqA.1 he with he|he
     . exact g1 e he
     . exact g2 e he
theorem k42:Tryz.prog.cellsOf 47=2:=by kernel_rfl
theorem k40:Tryz.prog.cellsOf 45=1:=by kernel_rfl
theorem qmO {n:Nat}{c:Value}{y:DataW H×List MemPlace}(h:DataW.trod enc Tryz.prog w base (fun _=>true) held n 45 [c]=some y):∃ i:Int,c=.int .u64 i:=by
 obtain⟨i,e,_⟩:=DataW.trod_int Tryz.underlying45 h;exact⟨i,(List.cons.inj e).1⟩
theorem rdR {n:Nat}{cs:List Value}{x:DataW H×List MemPlace}(h:DataW.trod enc Tryz.prog w base (fun _=>true) held n 47 cs=some x):∃ r:Rng,qh (KMw w) (wW r) cs/\True:=by
 obtain⟨m,rfl,hl,hf⟩:=QR Tryz.underlying47 h;rw[k42]at hl
 match cs,hl with
 | [a,b],_=>
  obtain⟨y0,h0⟩:=hf 0 _ rfl;obtain⟨y1,h1⟩:=hf 1 _ rfl;have h0:DataW.trod enc Tryz.prog w base (fun _=>true) held m 45 (List.take (Tryz.prog.cellsOf 45) (List.drop 0 [a,b]))=some y0:=h0;have h1:DataW.trod enc Tryz.prog w base (fun _=>true) held m 45 (List.take (Tryz.prog.cellsOf 45) (List.drop 1 [a,b]))=some y1:=h1;rw[k40]at h0 h1;obtain⟨i,rfl⟩:=qmO (c:=a) h0;obtain⟨j,rfl⟩:=qmO (c:=b) h1;refine⟨(i,j),?_,trivial⟩;simp only[wW,qh];exact⟨_,_,rfl,rfl,_,_,rfl,rfl,rfl⟩
end
end
end Go.Proofs.YtkpkjbchlabaaaaGreatDoor
end
section
namespace Go.Proofs.YtkpkjbchlabaaaaGreatDoor
open Go Go.Abs Go.ChangeShapes Go.WideShapes Go.ChangeAt Go.RowKit
theorem qoA:ownKnob Tryz.prog.godebug=none:=by kernel_rfl
theorem YI:laidOutB Tryz.prog=true:=by kernel_rfl
theorem gKeyw : Tryz.prog.globalNamed "testbench/lexer.keywords" = some 0 := by kernel_rfl
theorem tKeyw:(Tryz.prog.globals[0]?).map (·.type)=some 182:=by kernel_rfl
/-- A list of texts that reads as a known one. -/
theorem qol {H:Type}{enc:TypeId×Value->H}{w:World}{base:Nat}{held:Bool}{n:Nat}{cs:List Value}{p:List MemPlace}{K:List Str}
 (h:DataW.trod enc Tryz.prog w base (fun _=>true) held n 182 cs=some (.slice (K.map fun k=>.lit (.string k)) [],p)) (hK:K≠[]) :
 ∃ v,cs=[v]/\qg (KMw w) (.sl 1 (K.map zZ) .none) v:=by
 have hs:∀ (m:Nat) (cs:List Value) (x:DataW H×List MemPlace),DataW.trod enc Tryz.prog w base (fun _=>true) held m 9 cs=some x->∃ k:Str,qh (KMw w) (zZ k) cs/\x.1=.lit (.string k):=by
  intro m cs x h;obtain⟨s,rfl,rfl,_⟩:=DataW.trod_string Tryz.underlying9 h;refine⟨s.data.toList,?_,rfl⟩;simp only[zZ,qh];exact⟨_,[],rfl,qcm,rfl⟩
 rcases DataW.trod_slice Tryz.underlying182 h with ⟨_,e⟩|⟨a,len,cap,elems,rest,m,hm,rfl,e,hb,hl,hc,hlen,hel',hsp,_⟩
 . simp at e
 simp only[Prod.mk.injEq,DataW.slice.injEq]at e;obtain⟨⟨e1,e2⟩,_⟩:=e;have hlK:len=K.length:=by rw[<- hlen];have:=congrArg List.length e1;simpa using this.symm
 have hK0:0<K.length:=qqt.2 hK;rw[k9]at hel';have one:∀ i (hi:i<K.length),∃ cs',w.cells? base (a.add (i*1)) 1=some cs'/\qh (KMw w) (zZ K[i]) cs':=by
  intro i hi;have hh:=hel' i (by omega);rw[qqe (by omega)]at hh;obtain⟨cs',h1,h2⟩:=qrw.1 hh;obtain⟨k,h3,h4⟩:=hs m cs' _ h2;refine⟨cs',h1,?_⟩;have e3:(elems.map (·.1))[i]?=(K.map fun k=>(DataW.lit (.string k):DataW H))[i]? := by rw[e1]
  rw[qqB,qqB,qqe (by omega),qqe hi]at e3;simp only[qsO,Option.some.injEq]at e3;rw[h4]at e3;have e4:k=K[i]:=by simpa using e3
  rw[<- e4];exact h3
 have spot:a.spot=none:=by
  obtain⟨cs',h1,_⟩:=one 0 hK0;rw[qrK]at h1;obtain⟨_,hlen',hc'⟩:=World.cells?_some h1;have:=hc' 0 (by omega);rw[qqe (by omega)]at this
  cases hs:a.spot with
  | none=>rfl
  | some s=>
   simp only[Addr.add,if_true]at this;unfold World.cell? at this;rw[hs]at this;split at this<;>simp at this
 obtain⟨b,o,s⟩:=a;simp only at spot;subst spot;refine⟨_,rfl,?_⟩;simp only[qg];refine .inr ⟨b,o,cap,by simp[hlK],by simp;omega,qJ.intro b 1 _ o fun i r e=>?_,trivial⟩;rw[qqB,qqj]at e;obtain⟨k,hk,rfl⟩:=e;obtain⟨hi,hk'⟩:=qqc.1 hk;obtain⟨cs',h1,h2⟩:=one i hi;rw[hk']at h2;obtain⟨_,hlen',hc'⟩:=World.cells?_some h1;obtain⟨g1,g2⟩:=qh.get h2;refine⟨rfl,rfl,ql.intro b _ _ fun j z hz=>?_⟩;have hj:j=0:=by
  have:=(qqc.1 hz).1;simp at this;exact this
 subst hj;obtain⟨v,hv1,hv2⟩:=g2 0 z hz;refine⟨v,?_,hv2⟩;have:=hc' 0 (by omega);rw[hv1]at this;show w.cell? ⟨b,o+i*1+0,none⟩=some v;rw[<- this];congr 1;simp only[Addr.add,if_true];by_cases hi0:i*1=0
 . rw[if_pos hi0,hi0];simp
 . rw[if_neg hi0];simp
abbrev qfR:List (String×DataW Unit):=Rows.randomSatisfiesRow.laid
/-- What the condition gives: the keywords. -/
theorem qoK {W:World}(h:laidMetH Tryz.prog qfR W):qg (KMw W) (.rptr [.sl 1 (qbZ.map zZ) .none]) (.pointer (some ⟨0,0,none⟩)):=by
 rw[MakeChecks.laidMetH_plain _ _ _ (by kernel_rfl)]at h;obtain⟨ps,⟨g0,t0,cs0,f0,p0,q0,_,_,_,_,⟨g1,t1,cs1,f1,p1,q1,_,_,_,_,⟨g2,t2,cs2,f2,p2,q2,_,_,_,_,⟨g3,t3,cs3,f3,p3,q3,hg,ht,hv,hd,_,_⟩,_⟩,_⟩,_⟩,_,_⟩:=h;obtain rfl:=Option.some.inj (gKeyw.symm.trans hg);obtain rfl:=Option.some.inj (tKeyw.symm.trans ht);obtain⟨v,e,hr⟩:=qol (K:=qbZ) hd (by decide);have hcell:W.cell? ⟨0,0,none⟩=some v:=by
  have:=World.var?_cell hg hv 0;rw[Array.eq_one_of_toList e]at this;simpa using this
 have hgoal:qg (KMw W) (.rptr [.sl 1 (qbZ.map zZ) .none]) (.pointer (some ⟨0,0,none⟩)):=by
  unfold qg;refine⟨0,0,rfl,?_⟩;unfold ql;exact⟨⟨v,hcell,hr⟩,by unfold ql;trivial⟩
 exact hgoal
theorem qlV (os:Os)(args:Array Value):laidMetH Tryz.prog qfR ((World.doorLaid Tryz.prog 400 os).forCall (fun _ _=>0) ⟨#[],args,[]⟩).memory :=
 laidMetH_of_parts3 (fuel:=8) (laidMet_of_run' 8 (by kernel_rfl) (by kernel_rfl)) (by kernel_rfl) (by kernel_rfl)
theorem qii {W:World}(hL:laidMetH Tryz.prog qfR W):∀ g,qg (KMw W) (GG g) (.pointer (some ⟨g,0,none⟩)):=by
 intro g
 cases g with
 | zero=>exact qoK hL
 | succ g=>simp only[GG,qg]
end Go.Proofs.YtkpkjbchlabaaaaGreatDoor
end
