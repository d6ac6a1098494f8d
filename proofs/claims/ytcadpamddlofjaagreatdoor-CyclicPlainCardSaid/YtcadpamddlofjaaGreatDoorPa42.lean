/- A part of the proof. -/
import Derived.Test.YtcadpamddlofjaaGreatDoorPa36
import Derived.Test.YtcadpamddlofjaaGreatDoorPa41
set_option maxHeartbeats 16000000
set_option linter.unusedVariables false
set_option linter.unusedSimpArgs false
set_option maxRecDepth 1000000
set_option linter.defProp false
section
namespace Go.Proofs.YtcadpamddlofjaaGreatDoor
open Go Go.Abs
def fxE (e:Nat×Nat×Nat):AV×AV×Nat:=(.int .i64 (e.1:Int),.int .i64 (e.2.1:Int),e.2.2)
def fxO:List (Nat×Nat×Nat)->Nat->Option Nat
 | [],_=>none
 | e::r,i=>if e.1=i then some e.2.1 else fxO r i
def wa (f:Nat->Option Nat)(i x:Nat):Nat->Option Nat:=fun k=>if k=i then some x else f k
theorem qca (i:Nat):∀ (E:List (Nat×Nat×Nat)) (k:Nat),(fxO E i=none/\ju (.int .i64 (i:Int)) (E.map fxE) k=some none/\∀ y c,fxO (E++[(i,y,c)])=wa (fxO E) i y) \/
 ∃ j x,fxO E i=some x/\ju (.int .i64 (i:Int)) (E.map fxE) k=some (some (k+j,.int .i64 (x:Int)))/\∀ y:Nat,∃ E':List (Nat×Nat×Nat),(E.map fxE).modify j (fun e=>(.int .i64 (i:Int),.int .i64 (y:Int),e.2.2))=E'.map fxE/\fxO E'=wa (fxO E) i y:=by
 intro E
 induction E with
 | nil=>
  intro k;refine .inl ⟨rfl,rfl,fun y c=>?_⟩;funext j;by_cases h:j=i
  . subst h;simp[fxO,wa]
  . simp[fxO,wa,h];exact fun e=>h e.symm
 | cons e r ih=>
  intro k;by_cases he:e.1=i
  . refine .inr ⟨0,e.2.1,by simp[fxO,he],?_,fun y=>⟨(i,y,e.2.2)::r,by simp[fxE,List.modify],?_⟩⟩
    . simp[fxE,ju,vU,he]
    . funext j;by_cases h:j=i
      . subst h;simp[fxO,wa]
      . have h':¬ i=j:=fun e=>h e.symm
        simp[fxO,wa,h,h',he]
  . have hne:¬ (i:Int)=(e.1:Int):=(by omega);have hfind:ju (.int .i64 (i:Int)) ((e::r).map fxE) k=ju (.int .i64 (i:Int)) (r.map fxE) (k+1):=by
     have hb:((i:Int)==(e.1:Int))=false:=(by simpa using hne);simp[fxE,ju,vU,hb]
    rcases ih (k+1) with ⟨h1,h2,h3⟩|⟨j,x,h1,h2,h3⟩
    . refine .inl ⟨by simp[fxO,he,h1],by rw[hfind,h2],fun y c=>?_⟩;funext a;have:=congrFun (h3 y c) a;simp only[wa]at this ⊢;by_cases ha:e.1=a
      . have hai:¬ a=i:=fun h=>he (ha.trans h)
        simp[fxO,ha,hai]
      . simp[fxO,ha,this]
    . refine .inr ⟨j+1,x,by simp[fxO,he,h1],by rw[hfind,h2,qq3,qqz 1 j],fun y=>?_⟩;obtain⟨E',e1,e2⟩:=h3 y;refine⟨e::E',by simp[List.modify,<- e1],?_⟩;funext a;have:=congrFun e2 a;simp only[wa]at this ⊢;by_cases ha:e.1=a
      . have hai:¬ a=i:=fun h=>he (ha.trans h)
        simp[fxO,ha,hai]
      . simp[fxO,ha,this]
def FxS (F:Nat)(fx:Nat->Option Nat)(H:List Blk):Prop:=∃ E n,H[F]?=some (.map (E.map fxE) n)/\fxO E=fx
theorem FxS.ok {F:Nat}{fx:Nat->Option Nat}{H:List Blk}(h:FxS F fx H):qfE (.map F) fx H:=by
 obtain⟨E,n,h1,rfl⟩:=h;refine .inr ⟨F,_,n,rfl,h1,fun i=>?_⟩;rcases qca i E 0 with ⟨h1,h2,_⟩|⟨j,x,h1,h2,_⟩
 . rw[h1];exact h2
 . rw[h1];exact⟨_,h2⟩
theorem FxS.set {F:Nat}{fx:Nat->Option Nat}{H:List Blk}(h:FxS F fx H)(i y:Nat):∃ B,(∀ T,qY (Dof Tryz.prog) ⟨H,T⟩ 113 (.map F) (.int .i64 (i:Int)) (.int .i64 (y:Int))=some ⟨H.set F B,T⟩)/\FxS F (wa fx i y) (H.set F B):=by
 obtain⟨E,n,h1,rfl⟩:=h;have hl:=(qoX.1 h1).1;rcases qca i E 0 with ⟨_,h2,h3⟩|⟨j,x,_,h2,h3⟩
 . refine⟨.map ((E++[(i,y,n)]).map fxE) (n+1),fun T=>by simp[qY,zt,h1,h2,fxE],E++[(i,y,n)],n+1,qo2 hl,h3 y n⟩
 . obtain⟨E',e1,e2⟩:=h3 y;rw[qqT]at h2;exact⟨.map (E'.map fxE) n,fun T=>by simp[qY,zt,h1,h2,e1],E',n,qo2 hl,e2⟩
theorem FxS.keep {F:Nat}{fx:Nat->Option Nat}{H H':List Blk}{bs:List Nat}(h:FxS F fx H)(hk:KpL bs H H')(hb:F∉bs):FxS F fx H':=by
 obtain⟨E,n,h1,h2⟩:=h;exact⟨E,n,hk.2 _ _ h1 hb,h2⟩
theorem FxS.ne {F N:Nat}{fx:Nat->Option Nat}{H:List Blk}{B:Blk}(h:FxS F fx H)(hb:N≠F):FxS F fx (H.set N B):=by
 obtain⟨E,n,h1,h2⟩:=h;exact⟨E,n,by rw[qoY hb];exact h1,h2⟩
theorem VI (f:Nat->Option Nat)(i x:Nat):wa f i x i=some x:=by simp[wa]
theorem qjo (f:Nat->Option Nat)(i x y:Nat):wa (wa f i x) i y=wa f i y:=by
 funext k;by_cases h:k=i<;>simp[wa,h]
theorem FxS.get {F:Nat}{fx:Nat->Option Nat}{H:List Blk}(h:FxS F fx H){i x:Nat}(hx:fx i=some x)(T:List (Option Nat)):zq (Dof Tryz.prog) ⟨H,T⟩ 113 (.map F) (.int .i64 (i:Int)) false=some (.int .i64 (x:Int)):=by
 obtain⟨E,n,h1,rfl⟩:=h;rcases qca i E 0 with ⟨h2,_,_⟩|⟨j,x',h2,h3,_⟩
 . rw[hx]at h2;cases h2
 . rw[hx]at h2;cases h2;simp[zq,zt,h1,h3]
theorem qfg (l:List Int):(l.map qu).flatten=zK l:=by
 induction l with
 | nil=>rfl
 | cons a r ih=>rw[qo9,qpF,ih];rfl
theorem qim {r:AV}{a:List Int}{H:List Blk}(hr:AsR r a H)(ha:a≠[])(hl:a.length<=1000)(T:List (Option Nat)) :
 qg Tryz.prog GG 61 [r] ⟨H,T⟩ (fun v U'=>v=.ms H.length 0 a.length 1/\U'=⟨H++[.cells (zK a)],T⟩):=by
 refine qg.kO ⟨true,[],[],[]⟩ qe Tryz.func61 rfl (by kernel_rfl) ?_;rcases hr with ⟨tok,rfl⟩|⟨N,rfl,hA⟩
 . cases a with
   | nil=>exact absurd rfl ha
   | cons x a=>
    have h2:a.length+1<=549755813888:=(by simp at hl;omega);have h3:=qfg (x::a);simp only[qo9]at h3;simp[-getElem?_pos,zu,ji,qR,Ww,h2];exact h3
 . have h2:a.length<=549755813888:=(by omega);have h1:(zK a).take a.length=zK a:=qo6 (by rw[za];exact qo7 _);simp[-getElem?_pos,hA,zu,ji,qR,Ww,za,h1,h2,ha]
theorem qkG {s:List Int}{x z:Int}:z∈qdG s x↔z∈s\/z=x:=by
 have:∀ (s:List Int),z∈qfB s x↔z∈s\/z=x:=by
  intro s
  induction s with
  | nil=>simp[qfB]
  | cons y r ih=>
   unfold qfB;split
   . simp only[qpm,ih];constructor
     . rintro (h|h|h)<;>simp[h]
     . rintro ((h|h)|h)<;>simp[h]
   . simp only[qpm];constructor
     . rintro (h|h|h)<;>simp[h]
     . rintro ((h|h)|h)<;>simp[h]
 rw[qdG,List.mem_reverse,this,List.mem_reverse]
theorem qau {z:Int}:∀ (n:Nat) (l:List Int),l.length=n->(z∈kL l↔z∈l):=by
 intro n
 induction n with
 | zero=>intro l h;rw[qpf h];rfl
 | succ n ih=>
  intro l h;have hne:l≠[]:=fun e=>by rw[e]at h;simp at h
  have e:=qq9 hne;rw[<- e,Zl,qkG,ih _ (by simp[h])];simp
def yY (g:List Nat):List Nat:=(kL (g.map fun n:Nat=>(n:Int))).map Int.toNat
theorem qcZ (g:List Nat):kL (g.map fun n:Nat=>(n:Int))=(yY g).map fun n:Nat=>(n:Int):=by
 unfold yY;rw[qqd]
 symm
 conv=>rhs;rw[<- List.map_id (kL _)]
 refine qqa fun z hz=>?_
 rw[qau _ _ rfl]at hz;obtain⟨n,_,rfl⟩:=qpx.1 hz;rfl
theorem qgf {g:List Nat}{i:Nat}:i∈yY g↔i∈g:=by
 have:((i:Int)∈kL (g.map fun n:Nat=>(n:Int)))↔(i:Int)∈(g.map fun n:Nat=>(n:Int)):=qau _ _ rfl;rw[qcZ]at this;have key:∀ l:List Nat,((i:Int)∈l.map fun n:Nat=>(n:Int))↔i∈l:=fun l=>by
  rw[qpx];exact⟨fun ⟨n,hn,e⟩=>by
   have:n=i:=by omega
   exact this▸hn,fun h=>⟨i,h,rfl⟩⟩
 rwa[key,key]at this
theorem qgg (g:List Nat):(yY g).length=g.length:=by
 unfold yY;rw[qpK,Yp _ _ rfl,qpK]
def kD (F:Nat->Nat):Nat->Nat->Int->Nat×Int
 | 0,x,idx=>(x,idx)
 | n+1,x,idx=>if idx<F x then (x,idx) else if n=0 then (x,idx-F x) else kD F n (x+1) (idx-F x)
def wdN (p:Problem)(i:Nat):Nat:=match p.vars[i]? with | some v=>v.width.toNat | none=>0
noncomputable def chS (s:Spc)(d:List Nd)(a:List Int)(gi:Nat):List Nat->(Nat->Option Nat)->Int->List Int->List Int
 | [],_,_,out=>out
 | i::r,fx,idx,out=>
  let q:=kD (fun x=>Wv s d (wa fx i x) a gi) (2 ^ wdN s.p i) 0 idx
  chS s d a gi r (wa fx i q.1) q.2 (out.set i q.1)
noncomputable def Vd (s:Spc)(d:List Nd)(gi:Nat)(a:List Int)(idx:Int):List Int:=chS s d a gi (yY ((NG s.p).getD gi [])) (fun _=>none) idx a
def ChQ (out:List Int)(H:List Blk)(v:AV)(U':St):Prop:=KpL [] H U'.H/\∃ N,v=.ms N 0 out.length 1/\H.length<=N/\U'.H[N]?=some (.cells (zK out))
theorem qln {s:Spc}{d:List Nd}(h:SpV s d)(hl12:(NG s.p).flatten.length<=12){gi:Nat}(hgi:gi<(NG s.p).length){r:AV}{a:List Int}{H:List Blk}(hao:AOk s.p a)(hal:a.length=s.p.vars.length)(hs:SpOk s H)(ha:AsR r a H)(T:List (Option Nat))
 {idx:Int} (hi0:0<=idx) (hi1:idx<2 ^ 62) :
 qg Tryz.prog GG 31 [.ptr s.S 0,.int .i64 gi,r,.int .i64 idx] ⟨H,T⟩ (ChQ (Vd s d gi a idx) H):=by
 refine qg.k qe Tryz.func31 rfl (by kernel_rfl) ?_;obtain⟨g,hg⟩:∃ g,(NG s.p)[gi]?=some g:=⟨_,qo1 hgi⟩;have hgd:(NG s.p).getD gi []=g:=by simp[qpg,hg]
 have hgm:=qoZ hg;have hmf:∀ i∈g,i∈(NG s.p).flatten:=fun i hi=>qp6.2 ⟨g,hgm,hi⟩
 have hg12:g.length<=12:=by
  have:∀ (G:List (List Nat)),g∈G->g.length<=G.flatten.length:=by
   intro G
   induction G with
   | nil=>intro h;simp at h
   | cons x r ih=>
    intro h;rw[qpF,qo3];rcases qpm.1 h with rfl|h
    . omega
    . have:=ih h;omega
  exact qp4 (this _ hgm) hl12
 have hgne:g≠[]:=by
  obtain⟨g',hg',rfl⟩:=qpx.1 hgm;have:=(jQ h.vp).1 g' hg';simpa using this
 have hane:a≠[]:=by
  intro e;obtain⟨i,r',rfl⟩:=qrh hgne;obtain⟨n,hn,_⟩:=hao i (hmf i (by simp));rw[e]at hn;simp at hn
 have hvl:=h.vq.vars;have hcl:=qim ha hane (by omega) T;have hG:=qeb h.vp;have hS:=hs.c;simp only[spE,qL,qpp,qpl,hG]at hS;have hgil:gi<s.p.groups.length:=by
  have:(NG s.p).length=s.p.groups.length:=by simp[NG]
  omega
 have hval:=qfW (g.map fun n:Nat=>(n:Int)) .none (by simp);have hsrt:=qeD (g.map fun n:Nat=>(n:Int)) (by simpa using hg12) .none;have hrw:QC (g.map fun n:Nat=>(n:Int))=g.map zJ:=by simp[QC,zJ]
 have hnr:zj (g.map zJ)=true:=by rw[<- hrw];exact wc _
 rw[hrw]at hval hsrt;rw[qcZ,qqd]at hsrt;have hsm:((yY g).map (qu∘fun n:Nat=>(n:Int)))=(yY g).map zJ:=by simp[qu,zJ]
 rw[hsm]at hsrt;have hsl:(yY g).length<=12:=by rw[qgg];exact hg12
 have hNl:(NG s.p).length=s.p.groups.length:=by simp[NG]
 unfold Vd;rw[hgd];simp[-getElem?_pos];refine qc.acall hcl ?_;rintro v U ⟨rfl,rfl⟩;have hS1:=qa hS [.cells (zK a)];simp[-getElem?_pos,hS,hg,hgi,yb,hNl,qa];refine qc.call hval (by simp[hnr]) ?_;simp[-getElem?_pos];refine qc.call hsrt (by simp[hnr]) ?_;simp[-getElem?_pos];refine qJ.listR (yY g) (fun dn ev U=>ev 0=.ptr s.S 0/\ev 1=.int .i64 gi/\ev 2=r/\ev 9=.ms H.length 0 a.length 1/\ev 10=.map (H.length+1)/\ev 27=.sl 1 ((yY g).map zJ) .none/\ev 28=.int .i64 (yY g).length/\ev 29=.int .i64 dn.length /\
  ∃ (rest:List Nat) (fx:Nat->Option Nat) (ix:Int) (out:List Int),yY g=dn++rest/\ev 3=.int .i64 ix/\chS s d a gi rest fx ix out=chS s d a gi (yY g) (fun _=>none) idx a/\KpL [] H U.H/\U.H[H.length]?=some (.cells (zK out))/\FxS (H.length+1) fx U.H/\out.length=a.length/\0<=ix/\ix<2 ^ 62/\∀ i x,fx i=some x->x<65536) ?_ ?_ ?_
 . exact⟨by simp,by simp,by simp,by simp,by simp,by simp,by simp,by simp,yY g,fun _=>none,idx,a,rfl,by simp,rfl,KpL.app,by simp,⟨[],0,by simp,rfl⟩,rfl,hi0,hi1,by simp⟩
 . rintro dn i rest0 ev ⟨H1,T1⟩ R hR hd hx hlt ⟨e0,e1,e2,e9,e10,e27,e28,e29,rest,fx,ix,out,hre,e3,hch,hk,hN,hF,hol,hx0,hx1,hfx⟩;dsimp only at hk hN hF;have hre':rest=i::rest0:=by
    have:=hre.symm.trans hd;simpa using this
   subst hre';have hig:i∈g:=qgf.1 (qoZ hx);obtain⟨v,l,hv,hw0,hw8,_,_,_⟩:=h.gr hmf i hig;have hvi:=(qoX.1 hv).1;have hwd:wdN s.p i=v.width.toNat:=(by unfold wdN;rw[hv]);have hs1:=wb hw0 (by omega);have hwn:¬ v.width<0:=(by omega);have hp8:2 ^ v.width.toNat<=2 ^ 8:=qpr (by omega) (by omega);have hp0:0<2 ^ v.width.toNat:=qqV _;obtain⟨W,hW⟩:∃ W,W=2 ^ v.width.toNat:=⟨_,rfl⟩;have hch':chS s d a gi rest0 (wa fx i (kD (fun x=>Wv s d (wa fx i x) a gi) W 0 ix).1) (kD (fun x=>Wv s d (wa fx i x) a gi) W 0 ix).2 (out.set i (kD (fun x=>Wv s d (wa fx i x) a gi) W 0 ix).1)=chS s d a gi (yY g) (fun _=>none) idx a:=by
    rw[<- hch,hW,<- hwd];rfl
   rw[<- hW]at hs1 hp8 hp0;generalize hSF:(fun x=>Wv s d (wa fx i x) a gi)=SF at *;have hSFx:∀ x,SF x=Wv s d (wa fx i x) a gi:=fun x=>by rw[<- hSF]
   have hwl:=wr (n:=(dn.length:Int)+1) (by omega) (by omega);have hS1:=hk.2 _ _ hS (by simp);have hlt':(dn.length:Int)<(yY g).length:=(by omega);simp[-getElem?_pos,e0,e1,e2,e3,e9,e10,e27,e28,e29,hlt,hlt',hx,zJ,hS1,hv,hvi,hwn,IntKind.bits,hs1];refine qJ.gen (fun n ev U=>ev 0=.ptr s.S 0/\ev 1=.int .i64 gi/\ev 2=r/\ev 9=.ms H.length 0 a.length 1/\ev 10=.map (H.length+1)/\ev 12=.int .i64 i/\ev 27=.sl 1 ((yY g).map zJ) .none/\ev 28=.int .i64 (yY g).length/\ev 29=.int .i64 dn.length/\ev 42=.int .i64 W /\
    ∃ (x:Nat) (fc:Nat->Option Nat) (ic:Int),n=W-x/\ev 3=.int .i64 ic/\ev 43=.int .i64 x/\KpL [] H U.H/\U.H[H.length]?=some (.cells (zK out))/\FxS (H.length+1) fc U.H/\0<=ic/\ic<2 ^ 62/\(∀ i x,fc i=some x->x<65536) /\
     ((x<W/\kD SF W 0 ix=kD SF (W-x) x ic/\∀ y,wa fc i y=wa fx i y)\/(x=W/\kD SF W 0 ix=(W-1,ic)/\fc=wa fx i (W-1)))) W ?_ ?_
   . exact⟨by simp[e0],by simp[e1],by simp[e2],by simp[e9],by simp[e10],by simp,by simp[e27],by simp[e28],by simp[e29],by simp,0,fx,ix,by simp,by simp[e3],by simp,hk,hN,hF,hx0,hx1,hfx,.inl ⟨hp0,rfl,fun _=>rfl⟩⟩
   . rintro n ev ⟨H2,T2⟩ R2 hR2 ⟨e0,e1,e2,e9,e10,e12,e27,e28,e29,e42,x,fc,ic,rfl,e3,e43,hk,hN,hF,hc0,hc1,hfc,hcase⟩;dsimp only at hk hN hF;have hil:i<out.length:=(by omega);have hil':(i:Int)<(out.length:Int):=(by omega);have hial:(i:Int)<(a.length:Int):=(by omega);have hial1:i+1<=a.length:=(by omega);have tail:∀ (x:Nat) (ic:Int) (H3:List Blk) (T3:List (Option Nat)) (ev':Env),ev' 0=.ptr s.S 0->ev' 1=.int .i64 gi->ev' 2=r->ev' 9=.ms H.length 0 a.length 1->ev' 10=.map (H.length+1)->ev' 27=.sl 1 ((yY g).map zJ) .none->ev' 28=.int .i64 (yY g).length->ev' 29=.int .i64 ((dn.length:Int)+1)->ev' 3=.int .i64 ic ->
      KpL [] H H3->H3[H.length]?=some (.cells (zK out))->FxS (H.length+1) (wa fx i x) H3->0<=ic->ic<2 ^ 62->x<65536->kD SF W 0 ix=(x,ic)->R ev' ⟨H3.set H.length (.cells (zK (out.set i x))),T3⟩:=by
      intro x ic H3 T3 ev' a0 a1 a2 a9 a10 a27 a28 a29 a3 bk bN bF b0 b1 bx hp;refine hR _ _ ⟨a0,a1,a2,a9,a10,a27,a28,by rw[a29];simp,rest0,wa fx i x,ic,out.set i x,by rw[hd];simp,a3,?_,bk.setF (qo7 _),qo2 (qoX.1 bN).1,bF.ne (by omega),by simp[hol],b0,b1,?_⟩
      . rw[<- hch',hp]
      . intro k y hy;unfold wa at hy;split at hy
        . have:x=y:=by simpa using hy
          omega
        . exact hfx k y hy
     rcases hcase with ⟨hxW,hpk,hup⟩|⟨hxW,hpk,hup⟩
     . have hxW':(x:Int)<W:=(by omega);have hwx:=wr (n:=(x:Int)+1) (by omega) (by omega);obtain⟨B,hB,hF'⟩:=hF.set i x;have hF'':=hF';rw[hup]at hF'';have hkB:=hk.setF (b:=H.length+1) (y:=B) (by omega);have hNB:(H2.set (H.length+1) B)[H.length]?=some (.cells (zK out)):=(by rw[qoY (by omega)];exact hN);have hfu:∀ k y,wa fx i x k=some y->y<65536:=fun k y hy=>by
        unfold wa at hy;split at hy
        . have:x=y:=by simpa using hy
          omega
        . exact hfx k y hy
       have hsu:=qlS h hfu hgi hao (hs.keep hkB (by simp) (by simp) (by simp)) hF''.ok (ha.keep hkB (by simp)) T2;rw[<- hSFx]at hsu;have hpkx:kD SF (W-x) x ic=if ic<SF x then (x,ic) else if W-x-1=0 then (x,ic-SF x) else kD SF (W-x-1) (x+1) (ic-SF x):=by
        obtain⟨m,hm⟩:∃ m,W-x=m+1:=⟨W-x-1,by omega⟩;rw[hm];rfl
       have hSl:SF x<=lim:=(by rw[hSFx];exact qbI _ _ _ _ _);simp[-getElem?_pos,e0,e1,e2,e3,e9,e10,e12,e27,e28,e29,e42,e43,hxW,hxW',hB];refine qc.acall hsu ?_;rintro v ⟨H3,T3⟩ ⟨rfl,hk3⟩;dsimp only at hk3;have hF3:=hF''.keep hk3 (by simp);have hN3:=hk3.2 _ _ hNB (by simp);have hkk:=hkB.trans hk3;have hget:=hF3.get (VI fx i x) T3;by_cases hlt2:ic<SF x
       . rw[if_pos hlt2]at hpkx;simp[-getElem?_pos,e0,e1,e2,e3,e9,e10,e12,e27,e28,e29,e42,e43,hlt2,hget,hial,hial1,hN3,za,hol,yf,hwl];exact tail x ic H3 T3 _ (by simp[e0]) (by simp[e1]) (by simp[e2]) (by simp[e9]) (by simp[e10]) (by simp[e27]) (by simp[e28]) (by simp) (by simp[e3]) hkk hN3 hF3 hc0 hc1 (by omega) (by rw[hpk,hpkx])
       . rw[if_neg hlt2]at hpkx;have hws:=wr (n:=ic-(SF x:Int)) (by omega) (by omega);simp[-getElem?_pos,e0,e1,e2,e3,e9,e10,e12,e27,e28,e29,e42,e43,hlt2,hws,hwx];refine hR2 (W-(x+1)) _ _ (by omega) ⟨by simp[e0],by simp[e1],by simp[e2],by simp[e9],by simp[e10],by simp[e12],by simp[e27],by simp[e28],by simp[e29],by simp[e42],x+1,wa fx i x,ic-SF x,rfl,by simp,by simp,hkk,hN3,hF3,by omega,by omega,hfu,?_⟩;by_cases hlast:W-x-1=0
         . rw[if_pos hlast]at hpkx;refine .inr ⟨by omega,?_,?_⟩
           . rw[hpk,hpkx];congr 1;omega
           . congr 1;omega
         . rw[if_neg hlast]at hpkx;exact .inl ⟨by omega,by rw[hpk,hpkx];rfl,fun y=>qjo _ _ _ _⟩
     . have hxW':¬ (x:Int)<W:=(by omega);subst hup;have hget:=hF.get (VI fx i (W-1)) T2;simp[-getElem?_pos,e0,e1,e2,e3,e9,e10,e12,e27,e28,e29,e42,e43,hxW',hxW,hget,hial,hial1,hN,za,hol,yf,hwl];exact tail (W-1) ic H2 T2 _ (by simp[e0]) (by simp[e1]) (by simp[e2]) (by simp[e9]) (by simp[e10]) (by simp[e27]) (by simp[e28]) (by simp) (by simp[e3]) hk hN hF hc0 hc1 (by omega) hpk
 . rintro ev ⟨H1,T1⟩ ⟨e0,e1,e2,e9,e10,e27,e28,e29,rest,fx,ix,out,hre,e3,hch,hk,hN,hF,hol,hx0,hx1,hfx⟩;dsimp only at hk hN hF;have hre':rest=[]:=(by simpa using hre);subst hre';rw[<- hch];simp[-getElem?_pos,e9,e28,e29];exact⟨hk,H.length,by simp[chS,hol],qo7 _,hN⟩
theorem Jp:∀ {vs:List Var} {a:List Int},okA vs a->∀ {i:Nat} {v:Var},vs[i]?=some v->∃ x,a[i]?=some x/\(if v.mode=0 then x=v.value else 0<=x/\x<(z4 v:Nat))
 | [],_,_,i,v,hv=>by simp at hv
 | w::vs,[],h,i,v,hv=>h.elim
 | w::vs,y::a,h,0,v,hv=>by
  simp at hv;subst hv;exact⟨y,rfl,h.1⟩
 | w::vs,y::a,h,i+1,v,hv=>by
  obtain⟨x,h1,h2⟩:=Jp (vs:=vs) (a:=a) h.2 (i:=i) (v:=v) (by simpa using hv);exact⟨x,by simpa using h1,h2⟩
def eqP (p:Problem)(q:Nat×Nat):Ex:=eqE (Z9 p q.1) (q.2:Int)
theorem eq_sat {p:Problem}(hv:qr p=0){a:List Int}(ha:a∈ZZ p.vars){i:Nat}{v:Var}(hi:p.vars[i]?=some v){n:Nat}(hn:n<=65535) :
 decide (vl (Qq p.vars a) (eqP p (i,n))≠0)=decide (a[i]?=some (n:Int)):=by
 have hok:=Y3.1 ha;obtain⟨x,hx,hxr⟩:=Jp hok hi;have hm:=qoZ hi;have hve:=zk (jA hv v hm);have hvv:=Wp (jA hv v hm);have hx2:0<=x/\x<=65535:=by
  split at hxr
  . omega
  . have h3:2 ^ v.width.toNat<=2 ^ 8:=qpr (by omega) (by omega);unfold z4 at hxr;omega
 have hf:=QT (yI hv) hi hx;rw[Ji hx2.1 hx2.2]at hf;have hen:Qq p.vars a=(p.vars.zip a).map fun q=>⟨q.1.name,q.2⟩:=by unfold Qq;rw[if_pos hok.len]
 have hnm:Z9 p i=v.name:=by simp[Z9,hi]
 have ho:=qmx hve.1 (n:=(n:Int)) (by omega) (by omega);have hex:zr p.vars (eqE v.name (n:Int))=0:=ho.valid (by omega) (by omega) (by unfold vI;rw[qpq];exact⟨v,hm,by simp⟩);have hval:zg (eqE v.name (n:Int))=0:=by
  by_cases h0:zg (eqE v.name (n:Int))=0
  . exact h0
  . unfold zr at hex;rw[if_pos h0]at hex;exact absurd hex h0
 have hkn:kJ (Qq p.vars a) (eqE v.name (n:Int))=true:=by
  unfold kJ;rw[qbT,hen];simp[askV,eqE,Q8,jK,Ex.op,Ex.name,hf]
 have hev:vl (Qq p.vars a) (eqE v.name (n:Int))=b2i (decide (x=(n:Int))):=by
  unfold vl;rw[if_pos ⟨hval,hkn⟩,wQ,hen];simp[eqE,Q8,jK,Ex.op,Ex.name,Ex.args,Ex.n,WK,wQ,hf,opW,yw,b2i]
 show decide (vl _ (eqE (Z9 p i) (n:Int))≠0)=_;rw[hnm,hev,hx];by_cases hxn:x=(n:Int)<;>simp[b2i,hxn]
noncomputable def okC (p:Problem)(R:List Ex)(c:List (Nat×Nat)):Bool:=(ZZ p.vars).any fun a=>ZK p.vars R a&&c.all fun q=>decide (a[q.1]?=some (q.2:Int))
noncomputable def qju (p:Problem)(R:List Ex)(fx:Nat->Option Nat):List Nat->List (Nat×Nat)->Nat
 | [],c=>if okC p R c=true then 1 else 0
 | i::r,c=>if okC p R c=true then (vR (jX p i) (fx i)).foldl (fun s v=>sat (s+sat (wtP p i v*qju p R fx r (c++[(i,v)])))) 0 else 0
def qlL (p:Problem)(c:List (Nat×Nat)):Prop:=∀ q∈c,(∃ v,p.vars[q.1]?=some v/\v.mode≠0)/\q.2<2 ^ jX p q.1
theorem wid8 {p:Problem}(hv:qr p=0){i:Nat}{v:Var}(hi:p.vars[i]?=some v):jX p i=v.width.toNat/\v.width.toNat<=8:=by
 have hve:=zk (jA hv v (qoZ hi));exact⟨by unfold jX zz;rw[hi],by omega⟩
theorem qlL.lt {p:Problem}(hv:qr p=0){c:List (Nat×Nat)}(h:qlL p c){q:Nat×Nat}(hq:q∈c):q.2<=65535:=by
 obtain⟨⟨v,hi,_⟩,hlt⟩:=h q hq;obtain⟨h1,h2⟩:=wid8 hv hi;rw[h1]at hlt;have h3:2 ^ v.width.toNat<=2 ^ 8:=qpr (by omega) (by omega);omega
theorem qc0 {p:Problem}(hv:qr p=0)(R:List Ex){c:List (Nat×Nat)}(hc:qlL p c):yM p.vars (R++c.map (eqP p))=okC p R c:=by
 unfold yM okC;apply qpR.2;simp only[qpq];have key:∀ a∈ZZ p.vars,ZK p.vars (R++c.map (eqP p)) a=(ZK p.vars R a&&c.all fun q=>decide (a[q.1]?=some (q.2:Int))):=fun a ha=>by
  unfold ZK;rw[qqw,qr0];congr 1;apply qpR.2;simp only[qpa];refine forall_congr' fun q=>forall_congr' fun hq=>?_
  obtain⟨⟨v,hi,_⟩,_⟩:=hc q hq;have:=eq_sat hv ha hi (hc.lt hv hq);simp only[Function.comp];rw[<- this]
 constructor
 . rintro⟨a,ha,h⟩;exact⟨a,ha,by rw[<- key a ha];exact h⟩
 . rintro⟨a,ha,h⟩;exact⟨a,ha,by rw[key a ha];exact h⟩
def qi7 (p:Problem)(fx:Nat->Option Nat):Prop:=∀ i x,fx i=some x->x<2 ^ jX p i
theorem qfX {p:Problem}{fx:Nat->Option Nat}(hf:qi7 p fx){i v:Nat}(h:v∈vR (jX p i) (fx i)):v<2 ^ jX p i:=by
 unfold vR at h;split at h
 . exact qp0.1 h
 . rename_i x hx;have:=qpb.1 h;subst this;exact hf i _ hx
theorem yR {α:Type}{f g:Nat->α->Nat}:∀ {l:List α} {s:Nat},(∀ s,∀ v∈l,f s v=g s v)->l.foldl f s=l.foldl g s
 | [],s,h=>rfl
 | a::r,s,h=>by
  rw[qpP,qpP,h s a (by simp)];exact yR fun s v hv=>h s v (by simp[hv])
theorem qga {p:Problem}(hv:qr p=0)(R:List Ex){fx:Nat->Option Nat}(hf:qi7 p fx):∀ (g:List Nat) (c:List (Nat×Nat)),(∀ i∈g,∃ v,p.vars[i]?=some v/\v.mode≠0)->qlL p c ->
 qbH p fx g (R++c.map (eqP p))=qju p R fx g c:=by
 intro g
 induction g with
 | nil=>intro c _ hc;unfold qbH qju;rw[qc0 hv R hc]
 | cons i r ih=>
  intro c hg hc;unfold qbH qju;rw[qc0 hv R hc];split
  . refine yR fun s v hvm=>?_
    have hc':qlL p (c++[(i,v)]):=fun q hq=>by
     rcases qpk.1 hq with hq|hq
     . exact hc q hq
     . have:=qpb.1 hq;subst this;exact⟨hg i (by simp),qfX hf hvm⟩
    have:=ih (c++[(i,v)]) (fun j hj=>hg j (by simp[hj])) hc';rw[qpV,<- qps]at this;rw[<- this];rfl
  . rfl
def LW (p:Problem)(l:List Nat):Nat:=(l.map (jX p)).sum
theorem qiZ (p:Problem)(l m:List Nat):LW p (l++m)=LW p l+LW p m:=by simp[LW]
theorem Vm {p:Problem}(hv:qr p=0):∀ l:List Nat,yx p.vars (l.map fun n:Nat=>(n:Int))=(LW p l:Int)
 | []=>rfl
 | i::r=>by
  have ih:=Vm hv r;have h0:=Za (vA hv) i;have e1:yx p.vars ((i::r).map fun n:Nat=>(n:Int))=zz p.vars i+yx p.vars (r.map fun n:Nat=>(n:Int)):=by simp[yx]
  have e2:LW p (i::r)=jX p i+LW p r:=by simp[LW]
  rw[e1,e2,ih];unfold jX;omega
theorem qhc {p:Problem}(hv:qr p=0){k i:Nat}(hk:(NG p).flatten[k]?=some i):Yg (qQ p) i=LW p ((NG p).flatten.take k):=by
 have hk':p.groups.flatten[k]?=some (i:Int):=by rw[Qp hv,qpj,hk];rfl
 have h1:=Yi hv hk';rw[Qp hv,<- List.map_take,Vm hv]at h1;unfold Yg;rw[qpg,h1];simp
theorem qoU {p:Problem}(hv:qr p=0):LW p (NG p).flatten<=20:=by
 have:=YA hv;rw[Qp hv,Vm hv]at this;omega
theorem qib {d:List Nd}(h:DagOk d){node l w v:Nat}(hn:node<d.length)(hl:l<=lvD d node)(hlw:l+w<=20):∀ k,k<=w ->
 ww d l w v node k<d.length/\l+k<=lvD d (ww d l w v node k)/\∀ b,(∀ j,j<k->b (l+j)=v.testBit (w-1-j))->evD d b node=evD d b (ww d l w v node k):=by
 intro k
 induction k with
 | zero=>intro _;exact⟨hn,hl,fun b _=>rfl⟩
 | succ k ih=>
  intro hk;obtain⟨h1,h2,h3⟩:=ih (by omega);rw[Zw];obtain⟨g1,g2,g3⟩:=yQ h h1 (L:=l+k) (by omega) h2 (v.testBit (w-1-k));refine⟨g1,by omega,fun b hb=>?_⟩;rw[h3 b fun j hj=>hb j (by omega),g3 b (hb k (by omega))]
def Vo (p:Problem)(b:Nat->Bool)(i:Nat):Nat:=zh (fun k=>b (Yg (qQ p) i+jX p i-1-k)) (jX p i)
theorem qf2 {p:Problem}{b:Nat->Bool}{i v:Nat}(h:Vo p b i=v){j:Nat}(hj:j<jX p i):b (Yg (qQ p) i+j)=v.testBit (jX p i-1-j):=by
 rw[<- h];unfold Vo;rw[qS];have h1:jX p i-1-j<jX p i:=by omega
 have h2:Yg (qQ p) i+jX p i-1-(jX p i-1-j)=Yg (qQ p) i+j:=by omega
 simp[h1,h2]
def qix:List (Nat×Nat)->Nat->Bool
 | [],_=>false
 | (w,v)::r,l=>if l<w then v.testBit (w-1-l) else qix r (l-w)
theorem qd3:∀ (l:List (Nat×Nat)) (k w v j:Nat),l[k]?=some (w,v)->j<w->qix l (((l.take k).map (·.1)).sum+j)=v.testBit (w-1-j)
 | [],k,w,v,j,h,_=>by simp at h
 | (w',v')::r,0,w,v,j,h,hj=>by
  simp at h;obtain⟨rfl,rfl⟩:=h;simp[qix,hj]
 | (w',v')::r,k+1,w,v,j,h,hj=>by
  have ih:=qd3 r k w v j (by simpa using h) hj;have e:((((w',v')::r).take (k+1)).map (·.1)).sum+j=w'+(((r.take k).map (·.1)).sum+j):=by simp;omega
  rw[e,qix,if_neg (by omega),qpM,ih]
theorem qd2 {p:Problem}(hv:qr p=0)(val:Nat->Nat):∃ b,∀ i∈(NG p).flatten,Vo p b i=val i % 2 ^ jX p i:=by
 refine⟨qix ((NG p).flatten.map fun i=>(jX p i,val i)),fun i hi=>?_⟩;obtain⟨k,hk⟩:=qpD hi;have hl:=qhc hv hk;rw[<- ZH];unfold Vo;apply zi;intro j hj;have h:=qd3 ((NG p).flatten.map fun i=>(jX p i,val i)) k (jX p i) (val i) (jX p i-1-j) (by rw[qpj,hk];rfl) (by omega);have e1:(((((NG p).flatten.map fun i=>(jX p i,val i)).take k).map (·.1)).sum)=LW p ((NG p).flatten.take k):=by
  unfold LW;rw[<- List.map_take,qqd];rfl
 rw[e1,<- hl]at h;have e2:Yg (qQ p) i+jX p i-1-j=Yg (qQ p) i+(jX p i-1-j):=by omega
 have e3:jX p i-1-(jX p i-1-j)=j:=by omega
 rw[e2,h,e3]
theorem qjH {p:Problem}(hv:qr p=0){i:Nat}{v:Var}(hi:p.vars[i]?=some v)(hm:v.mode≠0):i∈(NG p).flatten:=by
 obtain⟨k,hk⟩:=qgv hv hi hm;rw[Qp hv,qpj]at hk
 cases h:(NG p).flatten[k]? with
 | none=>rw[h]at hk;cases hk
 | some j=>
  rw[h]at hk;have:(j:Int)=i:=by simpa using hk
  have:j=i:=by omega
  exact this▸qoZ h
theorem QS {p:Problem}(hv:qr p=0){i:Nat}(hi:i∈(NG p).flatten):∃ v,p.vars[i]?=some v/\v.mode≠0:=by
 obtain⟨k,hk⟩:=qiW hv hi;obtain⟨n,v,hn,hv',hm⟩:=JZ ((jQ hv).2.1 _ (qoZ hk));have:n=i:=by omega
 subst this;exact⟨v,hv',hm⟩
theorem Vg {p:Problem}(hv:qr p=0)(b:Nat->Bool){i:Nat}{v:Var}(hi:p.vars[i]?=some v)(hm:v.mode≠0):(Q9 p.vars (qQ p) b)[i]?=some (Vo p b i:Int):=by
 have hl:i<(qQ p).length:=by rw[yE];exact (qoX.1 hi).1
 have hli:=qo1 hl;rw[qcB hi hli];unfold qf4 Vo Yg;rw[if_neg hm,(wid8 hv hi).1,qpg,hli];rfl
theorem qiH {p:Problem}(b:Nat->Bool){i:Nat}{v:Var}(hi:p.vars[i]?=some v)(hm:v.mode=0):(Q9 p.vars (qQ p) b)[i]?=some v.value:=by
 have hl:i<(qQ p).length:=by rw[yE];exact (qoX.1 hi).1
 have hli:=qo1 hl;rw[qcB hi hli];unfold qf4;rw[if_pos hm]
theorem ql9:∀ {vs:List Var} {a:List Int},a.length=vs.length->(∀ (i:Nat) (v:Var),vs[i]?=some v->∃ x,a[i]?=some x/\(if v.mode=0 then x=v.value else 0<=x/\x<(z4 v:Nat)))->okA vs a
 | [],[],_,_=>trivial
 | [],_::_,h,_=>by simp at h
 | _::_,[],h,_=>by simp at h
 | v::vs,x::a,h,hx=>by
  obtain⟨y,hy,hc⟩:=hx 0 v rfl;simp at hy;subst hy;exact⟨hc,ql9 (by simpa using h) fun i w hw=>by
   obtain⟨y,hy,hc⟩:=hx (i+1) w (by simpa using hw);exact⟨y,by simpa using hy,hc⟩⟩
theorem qm9 (p:Problem)(b:Nat->Bool)(i:Nat):Vo p b i<2 ^ jX p i:=yK _ _
theorem qlv {p:Problem}(hv:qr p=0)(b:Nat->Bool):Q9 p.vars (qQ p) b∈ZZ p.vars:=by
 refine Y3.2 (ql9 (JB (yE p) b) fun i v hi=>?_);by_cases hm:v.mode=0
 . exact⟨_,qiH b hi hm,by rw[if_pos hm]⟩
 . refine⟨_,Vg hv b hi hm,?_⟩;rw[if_neg hm];have:=qm9 p b i;rw[(wid8 hv hi).1]at this;unfold z4;omega
theorem qiG {p:Problem}(hv:qr p=0){a:List Int}(ha:a∈ZZ p.vars):∃ b,Q9 p.vars (qQ p) b=a/\∀ i∈(NG p).flatten,a[i]?=some (Vo p b i:Int):=by
 have hok:=Y3.1 ha;obtain⟨b,hb⟩:=qd2 hv (fun i=>(a.getD i 0).toNat);have hr:∀ i∈(NG p).flatten,a[i]?=some (Vo p b i:Int):=fun i hi=>by
  obtain⟨v,hv',hm⟩:=QS hv hi;obtain⟨x,hx,hc⟩:=Jp hok hv';rw[if_neg hm]at hc;have:=hb i hi;rw[qpg,hx]at this;unfold z4 at hc;rw[(wid8 hv hv').1]at this;dsimp only[Option.getD]at this;have hlt:x.toNat<2 ^ v.width.toNat:=by omega
  rw[qqP hlt]at this;rw[hx,this];congr 1;omega
 refine⟨b,?_,hr⟩;apply qpL;intro i
 cases hi:p.vars[i]? with
 | none=>
  have hl:=List.getElem?_eq_none_iff.1 hi;rw[qpt (by rw[JB (yE p)];exact hl),qpt (by rw[hok.len];exact hl)]
 | some v=>
  by_cases hm:v.mode=0
  . obtain⟨x,hx,hc⟩:=Jp hok hi;rw[if_pos hm]at hc;rw[qiH b hi hm,hx,hc]
  . rw[Vg hv b hi hm,hr i (qjH hv hi hm)]
structure Inv (p:Problem)(d:List Nd)(root:Nat)(c:List (Nat×Nat))(node:Nat):Prop where
 lt:node<d.length
 lv:LW p (c.map (·.1))<=lvD d node
 pre:∃ post,(NG p).flatten=c.map (·.1)++post
 ev:∀ b,(∀ q∈c,Vo p b q.1=q.2)->evD d b root=evD d b node
theorem qdE {p:Problem}(hv:qr p=0){d:List Nd}(hd:DagOk d){root:Nat}{c:List (Nat×Nat)}{node:Nat}(h:Inv p d root c node){i v:Nat}(hi:∃ post,(NG p).flatten=c.map (·.1)++i::post) :
 Inv p d root (c++[(i,v)]) (ww d (Yg (qQ p) i) (jX p i) v node (jX p i)):=by
 obtain⟨post,hpost⟩:=hi;have hk:(NG p).flatten[(c.map (·.1)).length]?=some i:=by rw[hpost,qo5 (qo7 _),qql];rfl
 have htk:(NG p).flatten.take (c.map (·.1)).length=c.map (·.1):=by rw[hpost,List.take_left]
 have hlv:=qhc hv hk;rw[htk]at hlv;have hle:LW p (c.map (·.1))+jX p i<=20:=by
  have h1:=qoU hv;rw[hpost,qiZ]at h1;have:LW p (i::post)=jX p i+LW p post:=by simp[LW]
  omega
 obtain⟨h1,h2,h3⟩:=qib hd (w:=jX p i) (v:=v) h.lt (l:=Yg (qQ p) i) (by rw[hlv];exact h.lv) (by omega) (jX p i) (qo7 _);refine⟨h1,?_,⟨post,by rw[hpost];simp⟩,fun b hb=>?_⟩
 . rw[qpV,qiZ];have:LW p (([(i,v)]:List (Nat×Nat)).map (·.1))=jX p i:=by simp[LW]
   omega
 . rw[h.ev b fun q hq=>hb q (by simp[hq])];exact h3 b fun j hj=>qf2 (hb (i,v) (by simp)) hj
theorem qev {p:Problem}{b b':Nat->Bool}{i:Nat}(h:∀ j,j<jX p i->b (Yg (qQ p) i+j)=b' (Yg (qQ p) i+j)):Vo p b i=Vo p b' i:=by
 unfold Vo;apply zi;intro k hk;have e:Yg (qQ p) i+jX p i-1-k=Yg (qQ p) i+(jX p i-1-k):=by omega
 rw[e];exact h _ (by omega)
theorem qdS {q:Nat×Nat}:∀ {c:List (Nat×Nat)},(c.map (·.1)).Nodup->q∈c->c.find? (fun q'=>q'.1==q.1)=some q
 | [],_,h=>by simp at h
 | x::r,hn,h=>by
  rw[qo9,qrk]at hn;rcases qpm.1 h with rfl|h
  . simp
  . have hne:¬ x.1=q.1:=fun e=>hn.1 (qpx.2 ⟨q,h,e.symm⟩)
    have:(x.1==q.1)=false:=by simpa using hne
    rw[qrm,this];exact qdS hn.2 h
theorem qdD {p:Problem}(hv:qr p=0){R:List Ex}{d:List Nd}(hd:DagOk d){root:Nat}(hroot:∀ b,evD d b root=ZK p.vars R (Q9 p.vars (qQ p) b)){c:List (Nat×Nat)}(hc:qlL p c)(hnd:(NG p).flatten.Nodup){node:Nat}(h:Inv p d root c node) :
 okC p R c = !decide (node=0):=by
 obtain⟨post,hpost⟩:=h.pre;have hmem:∀ q∈c,q.1∈(NG p).flatten:=fun q hq=>by rw[hpost];exact qpk.2 (.inl (qpx.2 ⟨q,hq,rfl⟩))
 by_cases h0:node=0
 . have:okC p R c=false:=by
    rw[qp1];intro hok;unfold okC at hok;obtain⟨a,ha,hs⟩:=qpq.1 hok;rw[qo0]at hs;obtain⟨b,hb,hbv⟩:=qiG hv ha;have hf:∀ q∈c,Vo p b q.1=q.2:=fun q hq=>by
     have h1:=hbv _ (hmem q hq);have h2:=of_decide_eq_true (qpa.1 hs.2 q hq);rw[h1]at h2;have:(Vo p b q.1:Int)=(q.2:Int):=by simpa using h2
     omega
    have h1:=h.ev b hf;rw[hroot,hb,h0,Je hd]at h1;rw[h1]at hs;cases hs.1
   rw[this,h0];rfl
 . have:okC p R c=true:=by
    obtain⟨b,hb⟩:=qoy hd node node h.lt (qo7 _) h0;obtain⟨b0,hb0⟩:=qd2 hv (fun i=>match c.find? (fun q=>q.1==i) with|some q=>q.2|none=>0);obtain⟨b',hb'⟩:∃ b':Nat->Bool,b'=fun l=>if l<LW p (c.map (·.1)) then b0 l else b l:=⟨_,rfl⟩
    have hnode:evD d b' node=true:=by
     rw[<- hb];apply qaX hd h.lt;intro l hl;have:=h.lv;rw[hb'];dsimp only;rw[if_neg (by omega)]
    have hcn:(c.map (·.1)).Nodup:=by
     rw[hpost]at hnd;exact (qqv.1 hnd).1
    have hf:∀ q∈c,Vo p b' q.1=q.2:=fun q hq=>by
     obtain⟨k,hk⟩:=qpD hq;have hkl:=(qoX.1 hk).1;have hkF:(NG p).flatten[k]?=some q.1:=(by rw[hpost,qo8 (by simpa using hkl),qpj,hk];rfl);have hlv:=qhc hv hkF;have htk:(NG p).flatten.take k=(c.map (·.1)).take k:=(by rw[hpost,qpU (by simp;omega)]);have hw:Yg (qQ p) q.1+jX p q.1<=LW p (c.map (·.1)):=by
      rw[hlv,htk];have h1:(c.map (·.1))=(c.map (·.1)).take k++q.1::(c.map (·.1)).drop (k+1):=by
       have h2:(c.map (·.1)).drop k=q.1::(c.map (·.1)).drop (k+1):=by
        have h3:(c.map (·.1))[k]?=some q.1:=(by rw[qpj,hk];rfl);obtain⟨h4,h5⟩:=qoX.1 h3;rw[qph h4,h5]
       rw[<- h2,qpY]
      have h2:=congrArg (LW p) h1;rw[qiZ]at h2;have h3:LW p (q.1::(c.map (·.1)).drop (k+1))=jX p q.1+LW p ((c.map (·.1)).drop (k+1)):=(by simp[LW]);omega
     have e1:Vo p b' q.1=Vo p b0 q.1:=qev fun j hj=>by
      rw[hb'];dsimp only;rw[if_pos (by omega)]
     rw[e1,hb0 _ (hmem q hq)];have hfind:=qdS hcn hq;rw[hfind];exact qqP (hc q hq).2
    have hr:=h.ev b' hf;rw[hnode,hroot]at hr;unfold okC;refine qpq.2 ⟨_,qlv hv b',?_⟩;rw[hr,qp9,qpa];intro q hq;obtain⟨⟨v,hi,hm⟩,_⟩:=hc q hq;rw[Vg hv b' hi hm,hf q hq];simp
   rw[this];simp[h0]
theorem qgc {p:Problem}(hv:qr p=0){R:List Ex}{d:List Nd}(hd:DagOk d){root:Nat}(hroot:∀ b,evD d b root=ZK p.vars R (Q9 p.vars (qQ p) b))(hnd:(NG p).flatten.Nodup){fx:Nat->Option Nat}(hf:qi7 p fx) :
 ∀ (g:List Nat) (c:List (Nat×Nat)) (node:Nat),(∃ post,(NG p).flatten=c.map (·.1)++g++post)->qlL p c->Inv p d root c node->Vp p (qQ p) d fx g node=qju p R fx g c:=by
 intro g
 induction g with
 | nil=>
  intro c node hg hc h;unfold Vp qju;rw[qdD hv hd hroot hc hnd h];by_cases h0:node=0<;>simp[h0]
 | cons i r ih=>
  intro c node hg hc h;obtain⟨post,hpost⟩:=hg;unfold Vp qju;rw[qdD hv hd hroot hc hnd h];by_cases h0:node=0
  . simp[h0]
  . simp only[h0,if_false,decide_false,qse,if_true];refine yR fun s v hvm=>?_
    have hiF:i∈(NG p).flatten:=(by rw[hpost];simp);have hc':qlL p (c++[(i,v)]):=fun q hq=>by
     rcases qpk.1 hq with hq|hq
     . exact hc q hq
     . have:=qpb.1 hq;subst this;exact⟨QS hv hiF,qfX hf hvm⟩
    rw[ih (c++[(i,v)]) _ ⟨post,by rw[hpost];simp⟩ hc' (qdE hv hd h ⟨r++post,by rw[hpost];simp⟩)]
theorem qob {p:Problem}{d:List Nd}{root:Nat}(h:root<d.length):Inv p d root [] root:=⟨h,by simp[LW],⟨_,rfl⟩,fun b _=>rfl⟩
theorem qkE {p:Problem}(hv:qr p=0){d:List Nd}(hd:DagOk d){root:Nat}(val:Nat->Nat):∀ (l:List Nat) (c:List (Nat×Nat)) (node:Nat),Inv p d root c node->(∃ post,(NG p).flatten=c.map (·.1)++l++post) ->
 Inv p d root (c++l.map fun i=>(i,val i)) (l.foldl (fun node i=>ww d (Yg (qQ p) i) (jX p i) (val i) node (jX p i)) node):=by
 intro l
 induction l with
 | nil=>intro c node h _;simpa using h
 | cons i r ih=>
  intro c node h ⟨post,hpost⟩;have h1:=qdE hv hd h (i:=i) (v:=val i) ⟨r++post,by rw[hpost];simp⟩;have h2:=ih _ _ h1 ⟨post,by rw[hpost];simp⟩;rw[qpP,qo9];simpa using h2
theorem qlJ {p:Problem}{gi:Nat}{g:List Nat}(h:(NG p)[gi]?=some g):∃ post,(NG p).flatten=((NG p).take gi).flatten++g++post:=by
 have h1:=qpY gi (NG p);obtain⟨h2,h3⟩:=qoX.1 h;have h4:(NG p).drop gi=g::(NG p).drop (gi+1):=by rw[qph h2,h3]
 refine⟨((NG p).drop (gi+1)).flatten,?_⟩
 conv=>lhs;rw[<- h1,h4]
 simp
theorem qlK {p:Problem}(hv:qr p=0):(NG p).flatten.Nodup:=by
 have h:=(jQ hv).2.2.1;rw[Qp hv]at h;exact (List.pairwise_map.1 h).imp fun hne e=>hne (by rw[e])
theorem qne {s:Spc}{d:List Nd}(h:SpV s d)(hroot:s.small=true->∀ b,evD d b s.root=ZK s.p.vars s.R (Q9 s.p.vars (qQ s.p) b)){fx:Nat->Option Nat}(hf:qi7 s.p fx){a:List Int}(ha:∀ i∈(NG s.p).flatten,aN a i<2 ^ jX s.p i){gi:Nat}(hgi:gi<(NG s.p).length) :
 Wv s d fx a gi=qju s.p s.R fx ((NG s.p).getD gi []) (((NG s.p).take gi).flatten.map fun i=>(i,aN a i)):=by
 obtain⟨g,hg⟩:∃ g,(NG s.p)[gi]?=some g:=⟨_,qo1 hgi⟩;have hgd:(NG s.p).getD gi []=g:=by simp[qpg,hg]
 obtain⟨post,hpost⟩:=qlJ hg;have hin:∀ i∈((NG s.p).take gi).flatten,i∈(NG s.p).flatten:=fun i hi=>by rw[hpost];simp[hi]
 have hc:qlL s.p (((NG s.p).take gi).flatten.map fun i=>(i,aN a i)):=fun q hq=>by
  obtain⟨i,hi,rfl⟩:=qpx.1 hq;exact⟨QS h.vp (hin i hi),ha i (hin i hi)⟩
 have hmm:(((NG s.p).take gi).flatten.map fun i=>(i,aN a i)).map (·.1)=((NG s.p).take gi).flatten:=by
  rw[qqd];exact List.map_id _
 unfold Wv;rw[hgd];by_cases hsm:s.small=true
 . rw[if_pos hsm];obtain⟨hd,_,hr⟩:=h.dag hsm;have hi:=qkE h.vp hd (aN a) ((NG s.p).take gi).flatten [] s.root (qob hr) ⟨g++post,by rw[hpost];simp⟩;rw[h.lv];have:=qgc h.vp hd (hroot hsm) (qlK h.vp) hf g _ _ ⟨post,by rw[qpl,hmm];exact hpost⟩ (by rw[qpl];exact hc) hi;rw[qpl]at this;rw[<- this];unfold QI;rw[h.lv]
 . rw[if_neg hsm];have:=qga h.vp s.R hf g _ (fun i hi=>QS h.vp (by rw[hpost];simp[hi])) hc;rw[<- this];unfold KH;rw[qqd];rfl
def qi8 (x d:Int):Int:=IntKind.u64.wrap (BitVec.ofInt 64 x ^^^ BitVec.ofInt 64 (x.fdiv d)).toNat
def finS (x:Int):Int:=qi8 (IntKind.u64.wrap (qi8 (IntKind.u64.wrap (qi8 x 1073741824*13787848793156543929)) 134217728*10723151780598845931)) 2147483648
def mixS (x k:Int):Int:=finS (IntKind.u64.wrap (x+IntKind.u64.wrap (11400714819323198485*IntKind.u64.wrap (k+1))))
theorem fin370 (x:Int):Pure Tryz.prog GG 195 [.int .u64 x] (.int .u64 (finS x)):=by
 refine Pure.k qe Tryz.func195 rfl (by kernel_rfl) ?_;simp[-getElem?_pos,IntKind.bits];rfl
theorem mix293 (x k:Int):Pure Tryz.prog GG 139 [.int .u64 x,.int .u64 k] (.int .u64 (mixS x k)):=by
 refine Pure.k qe Tryz.func139 rfl (by kernel_rfl) ?_;simp[-getElem?_pos,IntKind.bits];refine qc.call (fin370 _) (by simp) ?_;simp[-getElem?_pos];rfl
abbrev Rng:=Int×Int
def jV (r:Rng):List AV:=[.int .u64 r.1,.int .u64 r.2]
def Kl (r:Rng):Int×Rng:=(mixS r.1 r.2,r.1,IntKind.u64.wrap (r.2+1))
theorem qnU (r:Rng):Pure Tryz.prog GG 99 [.agg (jV r)] (.tup [.int .u64 (Kl r).1,.agg (jV (Kl r).2)]):=by
 refine Pure.k qe Tryz.func99 rfl (by kernel_rfl) ?_;simp[-getElem?_pos,jV];refine qc.call (mix293 _ _) (by simp) ?_;simp[-getElem?_pos];exact⟨rfl,rfl,rfl⟩
theorem qfo {R:Nat}(H:List Blk)(T:List (Option Nat)):qg Tryz.prog GG 60 [.ptr R 0] ⟨H,T⟩ (fun v U'=>v=.fn 98 [] [.ptr H.length 0]/\U'=⟨H++[.cells [.ptr R 0]],T⟩):=by
 refine qg.k qe Tryz.func60 rfl (by kernel_rfl) ?_;simp[-getElem?_pos]
theorem wrapU (n:Int):IntKind.u64.wrap n=n % 18446744073709551616:=by
 simp[IntKind.wrap,IntKind.signed,IntKind.bits]
def Va (cut:Int):Nat->Int->Rng->Int×Rng
 | 0,v,r=>(v,r)
 | k+1,_,r=>if cut=0\/(Kl r).1<IntKind.u64.wrap (0-cut) then Kl r else Va cut k (Kl r).1 (Kl r).2
def cutS (n:Int):Int:=(IntKind.u64.wrap (0-n)).tmod n
def km (n:Int)(r:Rng):Int×Rng:=((Va (cutS n) 64 0 r).1.tmod n,(Va (cutS n) 64 0 r).2)
def qj4:List (Nat×Sch×List Nat):=[(6,.step 0 [10,9] (.step 1 [10,9,8,7,6,5,4,3,2] (.step 2 [10,9,8,7,6,5,4,3] (.step 3 [10,9,8,7,6,5,4] (.step 4 [10,9,8,7,6,5] (.step 5 [10,9,8,7,6] (.step 6 [10,9,8] (.step 7 [10,9] (.step 8 [10,9] (.step 9 [10] (.step 10 [] (.done))))))))))),[])]
def qnz:List (Nat×Sch×List Nat):=[(4,.step 0 [4,3,2] (.step 1 [4,3] (.step 2 [4,3] (.step 3 [4] (.step 4 [] (.done))))),[])]
theorem Zv (cut:Int):∀ (k:Nat) (v:Int) (r:Rng),0<=v->v<18446744073709551616->0<=(Va cut k v r).1/\(Va cut k v r).1<18446744073709551616
 | 0,v,r,h0,h1=>⟨h0,h1⟩
 | k+1,v,r,h0,h1=>by
  have hn:0<=(Kl r).1/\(Kl r).1<18446744073709551616:=by
   unfold Kl mixS finS qi8;dsimp only;rw[wrapU];omega
  unfold Va;split
  . exact hn
  . exact Zv cut k _ _ hn.1 hn.2
def DrwQ (n:Int)(R:Nat)(r:Rng)(H:List Blk)(T:List (Option Nat))(v:AV)(U':St):Prop:=v=.int .i64 (km n r).1/\U'=⟨H.set R (.cells (jV (km n r).2)),T⟩
theorem qou {n:Int}(h1:1<=n)(h2:n<=4611686018427387904){R C:Nat}{r:Rng}{H:List Blk}(hC:H[C]?=some (.cells [.ptr R 0]))(hR:H[R]?=some (.cells (jV r)))(hne:C≠R)(T:List (Option Nat)) :
 qg Tryz.prog GG 98 [.int .i64 n,.ptr C 0] ⟨H,T⟩ (DrwQ n R r H T):=by
 refine qg.kO ⟨false,qj4,[],[]⟩ qe Tryz.func98 rfl (by kernel_rfl) ?_;have hn0:¬ n=0:=by omega
 have hwn:=wru (n:=n) (by omega) (by omega);obtain⟨cut,hcut⟩:∃ cut,cut=cutS n:=⟨_,rfl⟩;have hcut':(IntKind.u64.wrap (0-n)).tmod n=cut:=by rw[hcut];rfl
 have hrl:=(qoX.1 hR).1;simp[-getElem?_pos,yA,unA,hn0,hwn];obtain⟨RES,hRES⟩:∃ RES,RES=Va cut 64 0 r:=⟨_,rfl⟩;have hcn:(IntKind.u64.wrap (-n)).tmod n=cut:=by simpa using hcut'
 have fin:∀ (v:Int) (rr:Rng),RES=(v,rr)->IntKind.i64.wrap (v.tmod n)=v.tmod n/\DrwQ n R r H T (.int .i64 (v.tmod n)) ⟨H.set R (.cells (jV rr)),T⟩:=fun v rr e=>by
  have hb:km n r=(v.tmod n,rr):=by unfold km;rw[<- hcut,<- hRES,e]
  have hv:=Zv cut 64 0 r (by omega) (by omega);rw[<- hRES,e]at hv;have h3:v.tmod n=v % n:=qrf hv.1;have h4:=Int.emod_nonneg v hn0;have h5:=Int.emod_lt_of_pos v (by omega:0<n);refine⟨by rw[h3];exact wr (by omega) (by omega),?_⟩;unfold DrwQ;rw[hb];exact⟨rfl,rfl⟩
 refine qJ.gen (fun m ev U=>ev 1=.ptr C 0/\ev 4=.int .u64 n/\ev 5=.int .u64 cut/\∃ (i:Nat) (v:Int) (rr:Rng),m=64-i/\i<=64/\ev 13=.int .i64 i/\ev 6=.int .u64 v/\Va cut (64-i) v rr=RES/\U=⟨H.set R (.cells (jV rr)),T⟩) 64 ?_ ?_
 . refine⟨by simp,by simp,by simp[hcn],0,0,r,rfl,by omega,by simp,by simp,hRES.symm,?_⟩;congr 1;apply qpL;intro j;by_cases hj:R=j
   . subst hj;rw[qo2 hrl,hR]
   . rw[qoY hj]
 . rintro m ev U R0 hR0 ⟨e1,e4,e5,i,v,rr,rfl,hi,e13,e6,hd,rfl⟩;have bC:∀ y,(H.set R y)[C]?=some (.cells [.ptr R 0]):=fun y=>by rw[qoY (Ne.symm hne)];exact hC
   have bR:∀ y,(H.set R y)[R]?=some y:=fun y=>qo2 hrl
   by_cases h64:i<64
   . have h64':(i:Int)<64:=(by omega);obtain⟨k,hk⟩:∃ k,64-i=k+1:=⟨63-i,by omega⟩;have hwi:=wr (n:=(i:Int)+1) (by omega) (by omega);rw[hk]at hd hR0;unfold Va at hd;obtain⟨x,r',hx⟩:∃ x r',Kl rr=(x,r'):=⟨_,_,rfl⟩;have hnx:=qnU rr;rw[hx]at hd hnx;dsimp only at hd hnx;simp only[jV]at hnx bR;simp[-getElem?_pos,e1,e4,e5,e6,e13,h64'];rw[qI rfl];simp[-getElem?_pos,qP,e1,e4,e5,e6,e13,bC,bR,jV];refine qc.call hnx (by simp) ?_;by_cases hc:cut=0
     . rw[if_pos (.inl hc)]at hd;obtain⟨hw,hq⟩:=fin x r' hd.symm;simp[-getElem?_pos,qP,e1,e4,e5,e6,e13,bC,bR,jV,hrl,hc,unA,hn0,hw,yA];exact hq
     by_cases hlt:x<IntKind.u64.wrap (0-cut)
     . rw[if_pos (.inr hlt)]at hd;obtain⟨hw,hq⟩:=fin x r' hd.symm;have hlt':x<IntKind.u64.wrap (-cut):=(by simpa using hlt);simp[-getElem?_pos,qP,e1,e4,e5,e6,e13,bC,bR,jV,hrl,hc,unA,hn0,hw,yA,hlt,hlt'];exact hq
     . rw[if_neg (fun h=>h.elim hc hlt)]at hd;have hlt':¬ x<IntKind.u64.wrap (-cut):=(by simpa using hlt);simp[-getElem?_pos,qP,e1,e4,e5,e6,e13,bC,bR,jV,hrl,hc,unA,hn0,yA,hlt,hlt',hwi];refine hR0 k _ _ (by omega) ⟨by simp[e1],by simp[e4],by simp[e5],i+1,x,r',by omega,by omega,by simp,by simp,?_,rfl⟩;rw[<- hd];congr 1;omega
   . have h64':¬ (i:Int)<64:=(by omega);have hi0:64-i=0:=(by omega);rw[hi0]at hd;obtain⟨hw,hq⟩:=fin v rr hd.symm;simp[-getElem?_pos,e1,e4,e5,e6,e13,h64',yA,hn0,hw];exact hq
def Q4 (n:Int)(r:Rng):Int×Rng×Int:=if n<1\/4611686018427387904<n then (0,(0,0),1) else ((km n r).1,(km n r).2,0)
def tupB (q:Int×Rng×Int):AV:=.tup [.int .i64 q.1,.agg (jV q.2.1),.int .i64 q.2.2]
theorem qoV (n:Int)(r:Rng):Pure Tryz.prog GG 30 [.agg (jV r),.int .i64 n] (tupB (Q4 n r)):=by
 refine Pure.kO ⟨false,qnz,[],[]⟩ true qe Tryz.func30 rfl (by kernel_rfl) ?_;by_cases h1:n<1
 . have e:Q4 n r=(0,(0,0),1):=if_pos (.inl h1);rw[e];simp[-getElem?_pos,h1,tupB,jV];rw[qG (by rfl)];exact⟨rfl,Leq.refl _⟩
 by_cases h2:4611686018427387904<n
 . have e:Q4 n r=(0,(0,0),1):=if_pos (.inr h2);rw[e];simp[-getElem?_pos,h1,h2,tupB,jV];rw[qG (by rfl)];exact⟨rfl,Leq.refl _⟩
 have e:Q4 n r=((km n r).1,(km n r).2,0):=if_neg (fun h=>h.elim h1 h2);rw[e];simp[-getElem?_pos,h1,h2,jV];refine qc.acall (qfo _ _) ?_;rintro v U ⟨rfl,rfl⟩;simp[-getElem?_pos];refine qc.acall (qou (r:=r) (R:=0) (C:=2) (by omega) (by omega) (by simp) (by simp[jV]) (by simp) _) ?_;rintro v U ⟨rfl,rfl⟩;simp[-getElem?_pos,jV];rw[qI rfl];simp[-getElem?_pos,qP,tupB,jV];rw[qG (by rfl)];exact⟨rfl,Leq.refl _⟩
noncomputable def qi3 (p:Problem)(fx:Nat->Option Nat)(a:List Int)(gi:Nat):Nat:=qju p (zH p).1 fx ((NG p).getD gi []) (((NG p).take gi).flatten.map fun i=>(i,aN a i))
noncomputable def qi2 (p:Problem)(gi:Int)(a:List Int):Int×Int :=
 if gi<0\/((NG p).length:Int)<=gi\/z7 p.vars a=false then (0,1)
 else if qi3 p (fun _=>none) a gi.toNat=0 then (0,11) else if qi3 p (fun _=>none) a gi.toNat=lim then (0,3) else (qi3 p (fun _=>none) a gi.toNat,0)
noncomputable def chP (p:Problem)(a:List Int)(gi:Nat):List Nat->(Nat->Option Nat)->Int->List Int->List Int
 | [],_,_,out=>out
 | i::r,fx,idx,out=>
  let q:=kD (fun x=>qi3 p (wa fx i x) a gi) (2 ^ wdN p i) 0 idx
  chP p a gi r (wa fx i q.1) q.2 (out.set i q.1)
noncomputable def YT (p:Problem)(gi:Nat)(a:List Int)(idx:Int):List Int:=chP p a gi (yY ((NG p).getD gi [])) (fun _=>none) idx a
noncomputable def qkP (p:Problem):List Nat->List Int->Rng->List Int×Rng×Int
 | [],a,r=>(a,r,0)
 | gi::rest,a,r=>
  if (qi2 p gi a).2≠0 then ([],(0,0),(qi2 p gi a).2)
  else if (Q4 (qi2 p gi a).1 r).2.2≠0 then ([],(0,0),(Q4 (qi2 p gi a).1 r).2.2)
  else qkP p rest (YT p gi a (Q4 (qi2 p gi a).1 r).1) (Q4 (qi2 p gi a).1 r).2.1
noncomputable def jB (p:Problem)(r:Rng):List Int×Rng×Int:=if (zH p).2≠0 then ([],(0,0),(zH p).2) else qkP p (List.range (NG p).length) (qX p.vars) r
theorem qfL (p:Problem)(i:Nat):wdN p i=jX p i:=by
 unfold wdN jX zz;split<;>rename_i h<;>simp[h]
theorem qdh (F:Nat->Nat):∀ (n x:Nat) (idx:Int),0<n->x<=(kD F n x idx).1/\(kD F n x idx).1<x+n
 | 0,x,idx,h=>absurd h (by omega)
 | n+1,x,idx,_=>by
  unfold kD;split
  . exact⟨qo7 _,by simp⟩
  . split
    . exact⟨qo7 _,by simp⟩
    . have:=qdh F n (x+1) (idx-F x) (by omega);omega
theorem J7 {F G:Nat->Nat}:∀ (n x:Nat) (idx:Int),(∀ y,x<=y->y<x+n->F y=G y)->kD F n x idx=kD G n x idx
 | 0,x,idx,h=>rfl
 | n+1,x,idx,h=>by
  unfold kD;rw[h x (qo7 _) (by omega),J7 n (x+1) _ fun y h1 h2=>h y (by omega) (by omega)]
theorem qi7.upd {p:Problem}{fx:Nat->Option Nat}(h:qi7 p fx){i x:Nat}(hx:x<2 ^ jX p i):qi7 p (wa fx i x):=fun k y hy=>by
 unfold wa at hy;split at hy
 . rename_i e;subst e;have:x=y:=by simpa using hy
   omega
 . exact h k y hy
theorem chS_eq {s:Spc}{d:List Nd}{p:Problem}{a:List Int}{gi:Nat}(hp:s.p=p)(hs:∀ fx,qi7 p fx->Wv s d fx a gi=qi3 p fx a gi):∀ (l:List Nat) (fx:Nat->Option Nat) (idx:Int) (out:List Int),qi7 p fx->chS s d a gi l fx idx out=chP p a gi l fx idx out:=by
 intro l
 induction l with
 | nil=>intro fx idx out _;rfl
 | cons i r ih=>
  intro fx idx out hf;have hpos:0<2 ^ jX p i:=qqV _;have hpk:kD (fun x=>Wv s d (wa fx i x) a gi) (2 ^ wdN s.p i) 0 idx=kD (fun x=>qi3 p (wa fx i x) a gi) (2 ^ wdN p i) 0 idx:=by
   rw[hp];refine J7 _ _ _ fun y _ hy=>hs _ (hf.upd ?_)
   rw[qfL]at hy;omega
  have hlt:=qdh (fun x=>qi3 p (wa fx i x) a gi) (2 ^ wdN p i) 0 idx (qqV _);rw[qfL]at hlt;unfold chS chP;dsimp only;rw[hpk];rw[qfL]at *;exact ih _ _ _ (hf.upd (by omega))
theorem qfv {p:Problem}(h:qr p=0){a:List Int}(ha:z7 p.vars a=true):a.length=p.vars.length/\∀ i∈(NG p).flatten,aN a i<2 ^ jX p i:=by
 unfold z7 at ha;simp only[qo0,decide_eq_true_eq]at ha;refine⟨ha.1,fun i hi=>?_⟩;obtain⟨v,hv,hm⟩:=QS h hi;have hil:=(qoX.1 hv).1;obtain⟨x,hx⟩:∃ x,a[i]?=some x:=⟨_,qo1 (by omega)⟩;have hz:(v,x)∈p.vars.zip a:=qoZ (i:=i) (qqi.2 ⟨hv,hx⟩);have h1:=qpa.1 ha.2 _ hz;unfold vw at h1;simp only[qo0,decide_eq_true_eq]at h1;have h3:((2 ^ v.width.toNat:Nat):Int)=(2:Int) ^ v.width.toNat:=by simp
 unfold aN;rw[qpg,hx,(wid8 h hv).1];dsimp only[Option.getD];omega
structure SpR (p:Problem)(s:Spc)(d:List Nd):Prop where
 pe:s.p=p
 R:s.R=(zH p).1
 v:SpV s d
 root:s.small=true->∀ b,evD d b s.root=ZK p.vars (zH p).1 (Q9 p.vars (qQ p) b)
theorem SpR.sum {p:Problem}{s:Spc}{d:List Nd}(h:SpR p s d){a:List Int}(ha:z7 p.vars a=true){gi:Nat}(hgi:gi<(NG p).length)(fx:Nat->Option Nat)(hf:qi7 p fx):Wv s d fx a gi=qi3 p fx a gi:=by
 obtain⟨hp,hR,hv,hr⟩:=h;subst hp;have:=qne hv (by rw[hR];exact hr) hf (qfv hv.vp ha).2 hgi;rw[this,hR];rfl
theorem SpR.tot {p:Problem}{s:Spc}{d:List Nd}(h:SpR p s d)(gi:Int)(a:List Int):Kw s d gi a=qi2 p gi a:=by
 unfold Kw qi2;rw[h.pe];split
 . rfl
 . rename_i hn;have h1:z7 p.vars a=true:=by
    cases hA:z7 p.vars a with
    | true=>rfl
    | false=>exact absurd (.inr (.inr hA)) hn
   have h2:gi.toNat<(NG p).length:=by
    have:¬ gi<0:=fun e=>hn (.inl e)
    have:¬ ((NG p).length:Int)<=gi:=fun e=>hn (.inr (.inl e))
    omega
   rw[h.sum h1 h2 _ (fun i x hx=>by cases hx)]
theorem SpR.ch {p:Problem}{s:Spc}{d:List Nd}(h:SpR p s d){a:List Int}(ha:z7 p.vars a=true){gi:Nat}(hgi:gi<(NG p).length)(idx:Int):Vd s d gi a idx=YT p gi a idx:=by
 unfold Vd YT;rw[chS_eq h.pe (fun fx hf=>h.sum ha hgi fx hf) _ _ _ _ (fun i x hx=>by cases hx),h.pe]
theorem qba {n:Int}(h1:1<=n)(r:Rng):0<=(km n r).1/\(km n r).1<n:=by
 have hv:=Zv (cutS n) 64 0 r (by omega) (by omega);unfold km;dsimp only;rw[qrf hv.1];exact⟨Int.emod_nonneg _ (by omega),Int.emod_lt_of_pos _ (by omega)⟩
theorem qit (p:Problem)(a:List Int)(gi:Nat):∀ (l:List Nat) (fx:Nat->Option Nat) (idx:Int) (out:List Int),(chP p a gi l fx idx out).length=out.length
 | [],_,_,_=>rfl
 | i::r,fx,idx,out=>by
  unfold chP;dsimp only;rw[qit p a gi r];simp
theorem YS (p:Problem)(gi:Nat)(a:List Int)(idx:Int):(YT p gi a idx).length=a.length:=qit _ _ _ _ _ _ _
def qnB:List (Nat×Sch×List Nat):=[(23,.step 0 [4,3,2] (.step 1 [4,3] (.step 2 [4,3] (.step 3 [4] (.step 4 [] (.done))))),[])]
def SlvQ (q:List Int×Rng×Int)(H:List Blk)(r:AV)(U':St):Prop:=KpL [] H U'.H/\∃ v b,r=.tup [v,.agg (jV q.2.1),.int .i64 q.2.2]/\qfD b U'.H v q.1/\H.length<=b
theorem JM (d:List Var)(v:Var):qX (d++[v])=qX d++[if v.mode=0 then v.value else 0]:=by simp[qX]
theorem kz (d:List Var):(qX d).length=d.length:=by simp[qX]
theorem Vk (p:Problem)(h:VQ p)(hv20:p.vars.length<=20)(hl12:qr p=0->(NG p).flatten.length<=12)(hb:yp p.vars (qy p)<=18)(hd:p.dists.length<=10000)(hs5:p.soft.length<=10000)(hws:∀ d∈p.dists,d.weights.length<=1000)(r:Rng)(H:List Blk)(T:List (Option Nat)) :
 qg Tryz.prog GG 9 [.agg (qL p),.agg (jV r)] ⟨H,T⟩ (SlvQ (jB p r) H):=by
 refine qg.kO ⟨true,qnB,[],[]⟩ qe Tryz.func9 rfl (by kernel_rfl) ?_;have hop:=open75 p h hv20 hb hd hs5 hws;simp[-getElem?_pos,jV];refine qc.acall (hop _ _) ?_;rintro v ⟨H1,T1⟩ ⟨hk1,hr⟩;dsimp only at hk1;rcases hr with ⟨he,rfl⟩|⟨he,s,d,rfl,hS,hL,hLL,hsp,hsR,hso,hsv,hroot⟩
 . have hq:jB p r=([],(0,0),(zH p).2):=if_pos he;rw[hq];have b2:=hk1.2 _ _ lk2 (by simp);have b2l:=(qoX.1 b2).1;have hkH:KpL [] H H1:=KpL.app.trans hk1;have hq:∀ T',SlvQ ([],(0,0),(zH p).2) H (.tup [.sl 0 [] .nil,.agg [.int .u64 0,.int .u64 0],.int .i64 (zH p).2]) ⟨H1.set (H.length+2) (.cells [.int .u64 0,.int .u64 0]),T'⟩:=fun T'=>⟨hkH.setF (by omega),_,H.length,rfl,.inl ⟨rfl,_,_,rfl⟩,qo7 _⟩
   simp[-getElem?_pos,he,b2,b2l];exact hq _
 . have hq:jB p r=qkP p (List.range (NG p).length) (qX p.vars) r:=if_neg (by simp[he]);rw[hq];have hR:SpR p s d:=⟨hsp,hsR,hsv,hroot⟩;have bx:=hk1.2 _ _ lk0 (by simp);have b1:=hk1.2 _ _ lk1 (by simp);have b2:=hk1.2 _ _ lk2 (by simp);have b2l:=(qoX.1 b2).1;have hkH:KpL [] H H1:=KpL.app.trans hk1;by_cases hv0:p.vars=[]
   . have hng:NG p=[]:=by
      have h1:=qbi hsv.vp;rw[hsp,hv0]at h1;have h2:∀ g∈NG p,g≠[]:=fun g hg=>by
       obtain⟨g',hg',rfl⟩:=qpx.1 hg;have:=(jQ (hsp▸hsv.vp)).1 g' hg';simpa using this
      cases hN:NG p with
      | nil=>rfl
      | cons g t=>
       rw[hN]at h1 h2;have:=h2 g (by simp);simp at h1;exact absurd h1.1 this
     have hgr:p.groups=[]:=(by simpa[NG] using hng);rw[hng,hv0];have hq:∀ T',SlvQ ([],r,0) H (.tup [.sl 1 [] .tight,.agg [.int .u64 r.1,.int .u64 r.2],.int .i64 0]) ⟨H1.set (H.length+2) (.cells [.int .u64 r.1,.int .u64 r.2]),T'⟩:=fun T'=>⟨hkH.setF (by omega),_,H.length,rfl,.inl ⟨rfl,_,_,rfl⟩,qo7 _⟩
     simp[-getElem?_pos,he,bx,hv0,hgr,qw,mkX];refine qJ.gen (fun m ev U=>ev 2=.ptr H.length 0/\ev 3=.ptr (H.length+1) 0/\ev 5=.ptr (H.length+2) 0/\ev 9=.sl 1 [] .tight/\ev 31=.int .i64 0/\ev 32=.int .i64 0/\∃ T',U=⟨H1,T'⟩) 0 ?_ ?_
     . exact⟨by simp,by simp,by simp,by simp,by simp,by simp,_,rfl⟩
     rintro m ev U R0 hR0 ⟨e2,e3,e5,e9,e31,e32,T2,rfl⟩;simp[-getElem?_pos,e2,e3,e5,e9,e31,e32,bx,hv0,hgr];refine qJ.gen (fun m ev U=>ev 3=.ptr (H.length+1) 0/\ev 5=.ptr (H.length+2) 0/\ev 9=.sl 1 [] .tight/\ev 48=.int .i64 0/\ev 49=.int .i64 0/\U=⟨H1,T2⟩) 0 ?_ ?_
     . exact⟨by simp[e3],by simp[e5],by simp[e9],by simp,by simp,rfl⟩
     rintro m ev U R1 hR1 ⟨e3,e5,e9,e48,e49,rfl⟩;simp[-getElem?_pos,e3,e5,e9,e48,e49];rw[qI rfl];simp[-getElem?_pos,qP,e3,e5,e9,b1,b2,b2l];exact hq _
   . obtain⟨n,hn⟩:∃ n,n=p.vars.length:=⟨_,rfl⟩;have hnp:0<n:=(by rw[hn];exact qpe.2 hv0);have hn0:¬ (n:Int)=0:=(by omega);have hn0':n≠0:=(by omega);have hn1:(n:Int)<=549755813888:=(by omega);have hbx:=qa bx [.cells (List.replicate n (.int .i64 0))];have hvl:=hsv.vq.vars;rw[hsp,<- hn]at hvl;have hz:List.replicate n (AV.int .i64 0)=zK (qX []++List.replicate n 0):=(by simp[zK,qX]);rw[hz]at hbx;simp[-getElem?_pos,he,bx,<- hn,hn0,hn0',hn1,qw,mkX,hz,hbx];refine qJ.listR p.vars (fun dn ev U=>ev 2=.ptr H.length 0/\ev 3=.ptr (H.length+1) 0/\ev 5=.ptr (H.length+2) 0/\ev 7=.ptr s.S 0/\ev 9=.ms H1.length 0 n 1/\ev 30=.sl 4 (p.vars.map qx) .none/\ev 31=.int .i64 n/\ev 32=.int .i64 dn.length/\KpL [] H1 U.H/\U.H[H1.length]?=some (.cells (zK (qX dn++List.replicate (n-dn.length) 0)))) ?_ ?_ ?_
     . exact⟨by simp,by simp,by simp,by simp,by simp,by simp,by simp,by simp,KpL.app,by simp[qX]⟩
     . rintro dn v rest ev ⟨H2,T2⟩ R0 hR0 hd0 hx hlt ⟨e2,e3,e5,e7,e9,e30,e31,e32,hk2,hrow⟩;dsimp only at hk2 hrow;rw[<- hn]at hlt;have hlt':(dn.length:Int)<n:=(by omega);have hlt1:dn.length+1<=n:=(by omega);have hwl:=wr (n:=(dn.length:Int)+1) (by omega) (by omega);have hrl:(qX dn++List.replicate (n-dn.length) 0).length=n:=(by simp[kz];omega);have hrow2:∀ w,(H2++w)[H1.length]?=_:=fun w=>qa hrow w
       obtain⟨j,hj⟩:∃ j,n-dn.length=j+1:=⟨n-dn.length-1,by omega⟩;have hst:∀ x,(qX dn++List.replicate (n-dn.length) 0).set dn.length x=qX dn++[x]++List.replicate (n-(dn++[v]).length) 0:=fun x=>by
        rw[qpW _ _ (by rw[kz];exact qo7 _),kz,qql,hj];simp[qqx];have:n-(dn.length+1)=j:=by omega
        rw[this]
       have hst0:qX dn++List.replicate (n-dn.length) 0=qX dn++[0]++List.replicate (n-(dn++[v]).length) 0:=by
        rw[hj];have:n-(dn++[v]).length=j:=by simp;omega
        rw[this];simp[qqx]
       have h1l:=(qoX.1 hrow).1;by_cases hm:v.mode=0
       . simp[-getElem?_pos,e2,e3,e5,e7,e9,e30,e31,e32,hlt,hlt',hx,qx,hm,hwl,hrow2,hlt1,za,hrl,yf];refine hR0 _ _ ⟨by simp[e2],by simp[e3],by simp[e5],by simp[e7],by simp[e9],by simp[e30],by simp[e31],by simp,(hk2.trans KpL.app).setF (qo7 _),?_⟩;dsimp only;rw[qo2 (by simp;omega),JM,if_pos hm,hst]
       . simp[-getElem?_pos,e2,e3,e5,e7,e9,e30,e31,e32,hlt,hlt',hx,qx,hm,hwl,hrow2,hlt1,za,hrl,yf];refine hR0 _ _ ⟨by simp[e2],by simp[e3],by simp[e5],by simp[e7],by simp[e9],by simp[e30],by simp[e31],by simp,hk2.trans KpL.app,?_⟩;dsimp only;rw[hrow2,JM,if_neg hm,hst0]
     . rintro ev ⟨H2,T2⟩ ⟨e2,e3,e5,e7,e9,e30,e31,e32,hk2,hrow⟩;dsimp only at hk2 hrow;rw[<- hn]at e32;have hrow':H2[H1.length]?=some (.cells (zK (qX p.vars))):=(by rw[hrow];simp[<- hn]);have bx2:=hk2.2 _ _ bx (by simp);simp[-getElem?_pos,e2,e3,e5,e7,e9,e30,e31,e32,bx2];have b12:=hk2.2 _ _ b1 (by simp);have b22:=hk2.2 _ _ b2 (by simp);have hkH2:=hkH.trans hk2;have hlen1:=hk1.1;simp only[qo3,qpd,qpy]at hlen1;have hS2:=hso.keep hk2 (by simp) (by simp) (by simp);have hSS:=(qoX.1 hS2.c).1;obtain⟨m,hm⟩:∃ m,m=(NG p).length:=⟨_,rfl⟩;have hml:p.groups.length=m:=(by rw[hm];simp[NG]);have hm1:m<=1000:=by
        have:=(qiX (hsp▸hsv.vp) (by rw[<- hn];exact hvl)).2;omega
       obtain⟨RES,hRES⟩:∃ RES,RES=qkP p (List.range m) (qX p.vars) r:=⟨_,rfl⟩;rw[<- hm,<- hRES];refine qJ.gen (fun k ev U=>ev 3=.ptr (H.length+1) 0/\ev 5=.ptr (H.length+2) 0/\ev 7=.ptr s.S 0/\ev 48=.int .i64 m /\
        ∃ (i N:Nat) (a:List Int) (rr:Rng),k=m-i/\i<=m/\ev 49=.int .i64 i/\ev 9=.ms N 0 n 1/\a.length=n/\H1.length<=N/\U.H[N]?=some (.cells (zK a))/\KpL [] H U.H/\U.H[H.length+1]?=some (.cells (jV rr))/\U.H[H.length+2]?=some (.cells (jV (0,0)))/\SpOk s U.H/\qkP p (List.range' i (m-i)) a rr=RES) m ?_ ?_
       . exact⟨by simp[e3],by simp[e5],by simp[e7],by simp[hml],0,H1.length,qX p.vars,r,rfl,by omega,by simp,by simp[e9],by rw[kz,hn],qo7 _,hrow',hkH2,b12,b22,hS2,by rw[hRES,qqJ];rfl⟩
       . rintro k ev ⟨H3,T3⟩ R1 hR1 ⟨e3,e5,e7,e48,i,N,a,rr,rfl,him,e49,e9,hal,hN1,hN,hk3,b13,b23,hS3,hres⟩;dsimp only at hN hk3 b13 b23 hS3;have b2l3:=(qoX.1 b23).1;have haR:AsR (.ms N 0 n 1) a H3:=.inr ⟨N,by rw[hal],hN⟩;by_cases hi:i<m
         . have hi':(i:Int)<m:=(by omega);have hwi:=wr (n:=(i:Int)+1) (by omega) (by omega);obtain⟨j,hj⟩:∃ j,m-i=j+1:=⟨m-i-1,by omega⟩;rw[hj,qqQ,qkP]at hres;have ht:=qnc hsv (i:Int) hS3 haR T3;rw[hR.tot]at ht;have hgi:i<(NG p).length:=(by omega);simp[-getElem?_pos,e3,e5,e7,e9,e48,e49,hi,hi'];refine qc.acall ht ?_;rintro v ⟨H4,T4⟩ ⟨rfl,hk4⟩;dsimp only at hk4;have b14:=hk4.2 _ _ b13 (by simp);have b24:=hk4.2 _ _ b23 (by simp);have b2l4:=(qoX.1 b24).1;have hS4:=hS3.keep hk4 (by simp) (by simp) (by simp);have haR4:=haR.keep hk4 (by simp);have hkk4:=hk3.trans hk4;have herr:∀ (er:Int) (T':List (Option Nat)) (X:List Blk),(∀ (j:Nat) (y:Blk),H4[j]?=some y->X[j]?=some y)->H4.length<=X.length->SlvQ ([],(0,0),er) H (.tup [.sl 0 [] .nil,.agg [.int .u64 0,.int .u64 0],.int .i64 er]) ⟨X.set (H.length+2) (.cells [.int .u64 0,.int .u64 0]),T'⟩:=fun er T' X hX hXl=>
            ⟨KpL.setF (hkk4.trans ⟨hXl,fun j y hj _=>hX j y hj⟩) (by omega),_,H.length,rfl,.inl ⟨rfl,_,_,rfl⟩,qo7 _⟩
           simp only[jV]at b14 b24;obtain⟨t,er,hte⟩:∃ t er,qi2 p (i:Int) a=(t,er):=⟨_,_,rfl⟩;rw[hte]at hres ⊢;dsimp only at hres ⊢;by_cases her:er=0
           . subst her;rw[if_neg (by simp)]at hres;have htp:z7 p.vars a=true/\1<=t/\t<lim:=by
              have h0:=hte;unfold qi2 at h0;split at h0
              . simp at h0
              . rename_i hn';split at h0
                . simp at h0
                . split at h0
                  . simp at h0
                  . have hle:qi3 p (fun _=>none) a (i:Int).toNat<=lim:=by
                     cases hA:z7 p.vars a with
                     | false=>exact absurd (.inr (.inr hA)) hn'
                     | true=>rw[<- hR.sum hA (by simpa using hgi) _ (fun i x hx=>by cases hx)];exact qbI _ _ _ _ _
                    refine⟨?_,?_⟩
                    . cases hA:z7 p.vars a with
                      | false=>exact absurd (.inr (.inr hA)) hn'
                      | true=>rfl
                    . have:t=(qi3 p (fun _=>none) a (i:Int).toNat:Nat):=by
                       have:=congrArg Prod.fst h0;exact this.symm
                      omega
             obtain⟨hA,ht1,ht2⟩:=htp;have hlim:lim=1099511627777:=rfl;have hbr:Q4 t rr=((km t rr).1,(km t rr).2,0):=if_neg (by omega);have hB:=qoV t rr;rw[hbr]at hres hB;simp only[tupB,jV]at hB;dsimp only at hres;rw[if_neg (by simp)]at hres;obtain⟨hx0,hx1⟩:=qba ht1 rr;generalize km t rr=q at *;have b14l:=(qoX.1 b14).1;simp[-getElem?_pos,e3,e5,e7,e9,b14,b24];refine qc.call hB (by simp) ?_;simp[-getElem?_pos,e3,e5,e7,e9,b14,b24,b14l];have hsub:KpL [H.length+1] H4 (H4.set (H.length+1) (.cells [.int .u64 q.2.1,.int .u64 q.2.2])):=⟨by simp,fun k x hk hn=>by rw[qoY (by simp at hn;omega)];exact hk⟩;simp only[qo3,qpd,qpy]at hS hL hLL;have hS5:=hS4.keep hsub (by simp;omega) (by simp;omega) (by simp;omega);have haR5:=haR4.keep hsub (by rintro N' o n' z e;cases e;simp;omega);have hch:=qln hsv (hsp▸hl12 (hsp▸hsv.vp)) (gi:=i) (by rw[hsp];exact hgi) (Y1 hsv.vp (by rw[hsp];exact hA)) (by rw[hsp,<- hn];exact hal) hS5 haR5 T4 hx0 (by omega);rw[hR.ch hA hgi]at hch;obtain⟨out,hout⟩:∃ out,out=YT p i a q.1:=⟨_,rfl⟩;rw[<- hout]at hch hres;refine qc.acall hch ?_;rintro v ⟨H6,T6⟩ ⟨hk6,N',rfl,hN',hN6⟩;dsimp only at hk6 hN6;have hkk5:KpL [] H (H4.set (H.length+1) (.cells [.int .u64 q.2.1,.int .u64 q.2.2])):=hkk4.setF (by omega);have b15:(H4.set (H.length+1) (.cells [.int .u64 q.2.1,.int .u64 q.2.2]))[H.length+1]?=some (.cells [.int .u64 q.2.1,.int .u64 q.2.2]):=qo2 b14l;have b25:(H4.set (H.length+1) (.cells [.int .u64 q.2.1,.int .u64 q.2.2]))[H.length+2]?=some (.cells [.int .u64 0,.int .u64 0]):=(by rw[qoY (by omega)];exact b24);have hol:out.length=n:=by
              rw[hout,YS,hal]
             simp[-getElem?_pos,e3,e5,e7,e9,e49,hwi];refine hR1 (m-(i+1)) _ _ (by omega) ⟨by simp[e3],by simp[e5],by simp[e7],by simp[e48],i+1,N',out,q.2,rfl,by omega,by simp,by simp[hol],hol,?_,hN6,hkk5.trans hk6,hk6.2 _ _ b15 (by simp),hk6.2 _ _ b25 (by simp),hS5.keep hk6 (by simp) (by simp) (by simp),?_⟩
             . have:=hk4.1;have:=(qoX.1 hN).1;simp at hN';omega
             . rw[<- hres];have:m-(i+1)=j:=by omega
               rw[this]
           . rw[if_pos her]at hres;rw[<- hres];simp[-getElem?_pos,e3,e5,e7,e9,her,b24,b2l4];exact herr er _ H4 (fun _ _ h=>h) (qo7 _)
         . have hi':¬ (i:Int)<m:=(by omega);have hj:m-i=0:=(by omega);rw[hj]at hres;have hres':RES=(a,rr,0):=hres.symm;rw[hres'];simp only[jV]at b13 b23;simp[-getElem?_pos,e3,e5,e7,e9,e48,e49,hi,hi'];rw[qI rfl];simp[-getElem?_pos,qP,e3,e5,e9,b13,b23,b2l3];refine⟨hk3.setF (by omega),_,N,rfl,.inr ⟨fun e=>by dsimp only at e;rw[e]at hal;simp at hal;omega,by dsimp only;rw[hal],?_⟩,by omega⟩;dsimp only;rw[qoY (by omega)];exact hN
end Go.Proofs.YtcadpamddlofjaaGreatDoor
end
section
namespace Go.Abs
open Go Go.RowKit
theorem Pure.ofA {P:Program}{G:Nat->AV}{f:FuncId}{args:List AV}{r:AV}{Q:AV->St->Prop}(h:qg P (z5 G) f args ⟨[],[]⟩ Q)(hq:∀ v U',Q v U'->qC (frz U'.H 8 v)=true/\Leq (frz U'.H 8 v) r):Pure P G f args r:=by
 refine⟨h.1,?_⟩;intro w0 ro vs hg hro hvs;have hw:WRel (z5 G) w0 ro (K0 ro) ⟨[],[]⟩ w0:=⟨Below.refl _ _,hg,hro,fun b o v e _=>e,by simp,fun _ _ _ e=>by simp[K0]at e,fun _ _ e=>by simp[K0]at e,by simp,fun _ _ e=>by simp[K0]at e,
  fun _ _ _ _ e=>by simp[K0]at e,rfl,fun _ _ _ _ _ e=>by simp[K0]at e,fun _ _ e=>by simp[K0]at e,fun _ _ e=>by simp[K0]at e⟩
 refine (h.2 w0 ro (K0 ro) w0 vs hw hvs).mono ?_;rintro e w' (⟨v',v,U',K',rfl,h1,h2,hv,hQ⟩|⟨c,U',K',rfl,h1,h2,hX⟩)
 . obtain⟨q1,q2⟩:=h2.end_ro;obtain⟨g1,g2⟩:=hq v U' hQ;exact⟨v',wI w0 w' K'.ro,rfl,h2.below,fun b o v e=>Jm _ _ _ _ _ _ (h1.ro b o v e),q1,q2,Leq.rel _ _ g2 (qhN h2 8 hv)⟩
 . exact hX.elim
end Go.Abs
namespace Go.Proofs.YtcadpamddlofjaaGreatDoor
open Go Go.Abs
theorem qfD.frz {b:Nat}{H:List Blk}{v:AV}{a:List Int}(h:qfD b H v a)(n:Nat):qC (Abs.frz H (n+1) v)=true/\Leq (Abs.frz H (n+1) v) (.sl 1 (a.map qu) .none)/\(qC v=true->Leq v (.sl 1 (a.map qu) .none)):=by
 rcases h with ⟨rfl,sz,tok,rfl⟩|⟨h0,rfl,hb⟩
 . have h1:∀ t,Leq (.sl sz [] t) (.sl 1 (([]:List Int).map qu) .none):=fun t=>by simp[Leq]
   refine⟨?_,?_,fun _=>h1 _⟩
   . unfold Abs.frz;split
     . assumption
     . simp
   . unfold Abs.frz;split
     . exact h1 _
     . simp
 . have ho:js b 1 qu H (.ms b 0 a.length 1) a:=.inr ⟨h0,rfl,by rw[hb,kW]⟩;exact⟨ho.frzNo (fun _=>rfl) (fun _=>rfl) (fun _=>rfl) n,ho.frz (fun _=>rfl) (fun _=>rfl) (fun _=>rfl) n,fun h=>by simp[qC]at h⟩
theorem qkU {H:List Blk}{n:Nat}{v x y:AV}(hx:qC x=true)(hy:qC y=true){w:AV}(h1:qC (Abs.frz H n v)=true)(h2:Leq (Abs.frz H n v) w)(h3:qC v=true->Leq v w)(hX:∀ X:AV,Leq X X) :
 qC (Abs.frz H (n+1) (.tup [v,x,y]))=true/\Leq (Abs.frz H (n+1) (.tup [v,x,y])) (.tup [w,x,y]):=by
 by_cases hv:qC v=true
 . have hn:qC (.tup [v,x,y])=true:=(by simp[qC,qp,hv,hx,hy]);rw[qG hn];exact⟨hn,by simp[Leq,zn,h3 hv,Leq.refl]⟩
 . have hn:qC (.tup [v,x,y])=false:=(by simp[qC,qp,hv]);have e:Abs.frz H (n+1) (.tup [v,x,y])=.tup [Abs.frz H n v,x,y]:=by
    rw[Abs.frz,if_neg (by simp[hv])];simp[qG hx,qG hy]
   rw[e];exact⟨by simp[qC,qp,h1,hx,hy],by simp[Leq,zn,h2,Leq.refl]⟩
noncomputable def slvV (q:List Int×Rng×Int):AV:=.tup [.sl 1 (q.1.map qu) .none,.agg (jV q.2.1),.int .i64 q.2.2]
theorem qiU (p:Problem)(h:VQ p)(hv20:p.vars.length<=20)(hl12:qr p=0->(NG p).flatten.length<=12)(hb:yp p.vars (qy p)<=18)(hd:p.dists.length<=10000)(hs5:p.soft.length<=10000)(hws:∀ d∈p.dists,d.weights.length<=1000)(r:Rng) :
 Pure Tryz.prog GG 9 [.agg (qL p),.agg (jV r)] (slvV (jB p r)):=by
 refine Pure.ofA (Vk p h hv20 hl12 hb hd hs5 hws r [] []) ?_;rintro v U' ⟨_,w,b,rfl,hr,_⟩;obtain⟨h1,h2,h3⟩:=hr.frz 6;exact qkU (by simp[qC,qp,jV]) (by simp[qC]) h1 h2 h3 (fun _=>Leq.refl _)
end Go.Proofs.YtcadpamddlofjaaGreatDoor
end
section
namespace Go.Proofs.YtcadpamddlofjaaGreatDoor
open Go Go.Abs
def StaQ (n:Nat)(H:List Blk)(r:AV)(U':St):Prop:=KpL [] H U'.H/\∃ B,r=.agg [.ms B 0 n 1]/\H.length<=B/\U'.H[B]?=some (.cells (List.replicate n (.sl 0 [] .nil)))
theorem qcX (p:Problem)(hl:p.vars.length<=1000)(h0:p.vars≠[])(H:List Blk)(T:List (Option Nat)):qg Tryz.prog GG 7 [.agg (qL p)] ⟨H,T⟩ (StaQ p.vars.length H):=by
 refine qg.kO o0 qe Tryz.func7 rfl (by kernel_rfl) ?_;have hl2:(p.vars.length:Int)<=549755813888:=by omega
 simp[-getElem?_pos,qw,zl,zP,qA,hl2,h0];refine⟨KpL.app,_,rfl,?_,?_⟩
 . simp
 . simp
theorem qcW (p:Problem)(h0:p.vars=[])(H:List Blk)(T:List (Option Nat)):qg Tryz.prog GG 7 [.agg (qL p)] ⟨H,T⟩ (fun r U'=>KpL [] H U'.H/\∃ tok,r=.agg [.sl 1 [] tok]):=by
 refine qg.kO o0 qe Tryz.func7 rfl (by kernel_rfl) ?_;simp[-getElem?_pos,qw,zl,zP,qA,h0];exact KpL.app
def kQ (p:Problem):List (List Int):=p.vars.map fun v=>if v.mode=2 then (List.range (z4 v)).map (fun n:Nat=>(n:Int)) else []
def VsOk (vs:List AV)(c:List (List Int)):Prop:=vs.length=c.length/\∀ (i:Nat) (l:List Int),c[i]?=some l->∃ t,vs[i]?=some (Y8 1 qu t l)
def EmpV (x:AV):Prop:=x=.sl 1 [] .tight\/x=.sl 0 [] .nil
def qgE:List (Nat×Sch×List Nat):=[(6,.step 0 [7,6,1] (.step 2 [7,6] (.step 3 [7,6,5,4] (.step 4 [7,6,5] (.fork (.cons 1 (.step 5 [7,6] (.step 6 [7] (.step 7 [] (.done)))) (.cons 5 (.step 1 [7,6] (.step 6 [7] (.step 7 [] (.done)))) (.nil))))))),[])]
def CopQ (n:Nat)(H:List Blk)(r:AV)(U':St):Prop:=KpL [] H U'.H/\∃ B ws,r=.agg [.ms B 0 n 1]/\H.length<=B/\U'.H[B]?=some (.cells ws)/\ws.length=n/\∀ x∈ws,EmpV x
theorem qif (p:Problem)(hl:p.vars.length<=1000)(h0:p.vars≠[])(hw:∀ v∈p.vars,0<=v.width/\v.width<=8){B:Nat}{vs:List AV}{H:List Blk}(T:List (Option Nat))(hB:H[B]?=some (.cells vs))(hvs:VsOk vs (kQ p)) :
 qg Tryz.prog GG 24 [.agg (qL p),.agg [.ms B 0 p.vars.length 1]] ⟨H,T⟩ (CopQ p.vars.length H):=by
 refine qg.kO ⟨true,qgE,[],[]⟩ qe Tryz.func24 rfl (by kernel_rfl) ?_;have hst:=qcX p hl h0;simp[-getElem?_pos];refine qc.acall (hst _ _) ?_;rintro v ⟨H1,T1⟩ ⟨hk1,B2,rfl,hB2,b2⟩;dsimp only at hk1 b2;have bx:=hk1.2 _ _ lk0 (by simp);have bh:=hk1.2 _ _ lk1 (by simp);simp only[qo3,qpd,qpy]at hB2;have bz:=hk1.2 _ _ lk2 (by simp);have hkH:KpL [] H H1:=KpL.app.trans hk1;have hlen1:=hk1.1;simp only[qo3,qpd,qpy]at hlen1;have hb2l:=(qoX.1 b2).1;obtain⟨n,hn⟩:∃ n,n=p.vars.length:=⟨_,rfl⟩;rw[<- hn]at b2 hl bh ⊢;simp[-getElem?_pos,bx,bh,qa bx,qa bh];refine qJ.listR p.vars (fun dn ev U=>ev 2=.ptr H.length 0/\ev 3=.ptr (H.length+1) 0/\ev 4=.ptr (H.length+2) 0/\ev 5=.ptr H1.length 0/\ev 11=.ms B 0 n 1/\ev 12=.int .i64 n/\ev 13=.int .i64 dn.length/\KpL [] H U.H/\U.H[H.length]?=some (.cells (qL p))/\U.H[H.length+2]?=some (.cells [.sl 0 [] .nil])/\U.H[H1.length]?=some (.cells [.ms B2 0 n 1])/\∃ ws,U.H[B2]?=some (.cells ws)/\ws.length=n/\∀ x∈ws,EmpV x) ?_ ?_ ?_
 . exact⟨by simp,by simp,by simp,by simp,by simp,by simp,by simp,hkH.trans KpL.app,qa bx _,qa bz _,by simp,_,qa b2 _,by simp,fun x hx=>.inr (List.eq_of_mem_replicate hx)⟩
 . rintro dn v rest ev ⟨H2,T2⟩ R hR hd hx hlt ⟨e2,e3,e4,e5,e11,e12,e13,hk,cx,cz,c5,ws,cw,hwl,hwe⟩;dsimp only at hk cx cz c5 cw;rw[<- hn]at hlt;have hlt':(dn.length:Int)<n:=(by omega);have hlt1:dn.length+1<=n:=(by omega);have hwl1:=wr (n:=(dn.length:Int)+1) (by omega) (by omega);have hvw:=hw v (qoZ hx);have hvwn:¬ v.width<0:=(by omega);have hs1:=wb hvw.1 (by omega);have cB:=hk.2 _ _ hB (by simp);obtain⟨hvl,hva⟩:=hvs;have hvl':vs.length=n:=(by rw[hvl];simp[kQ,hn]);obtain⟨l,hl2,hfc⟩:∃ l,l=(if v.mode=2 then (List.range (z4 v)).map (fun n:Nat=>(n:Int)) else [])/\(kQ p)[dn.length]?=some l:=⟨_,rfl,by unfold kQ;rw[qpj,hx];rfl⟩;obtain⟨t,hvt⟩:=hva _ _ hfc;have hdr:vs.drop dn.length=Y8 1 qu t l::vs.drop (dn.length+1):=by
    obtain⟨h1,h2⟩:=qoX.1 hvt;rw[qph h1,h2]
   simp only[qL,qpp,qpl]at cx;have hp0:0<2 ^ v.width.toNat:=qqV _;by_cases hm:v.mode=2
   . rw[if_pos hm]at hl2;have hll:l.length=2 ^ v.width.toNat:=(by rw[hl2];simp[z4]);have hlne:l≠[]:=fun e=>by rw[e]at hll;simp at hll;omega
     rw[WD hlne]at hdr;obtain⟨W,hW⟩:∃ W,W=2 ^ v.width.toNat:=⟨_,rfl⟩;rw[<- hW]at hs1 hll hp0;simp[-getElem?_pos,e2,e3,e4,e5,e11,e12,e13,hlt,hlt',hlt1,cB,hvl',hdr,cx,hx,qx,hvwn,IntKind.bits,hs1,hll,hwl1];exact hR _ _ ⟨by simp[e2],by simp[e3],by simp[e4],by simp[e5],by simp[e11],by simp[e12],by simp,hk,cx,cz,c5,ws,cw,hwl,hwe⟩
   . rw[if_neg hm]at hl2;subst hl2;rw[qdk]at hdr;obtain⟨W,hW⟩:∃ W,W=2 ^ v.width.toNat:=⟨_,rfl⟩;rw[<- hW]at hs1 hp0;have hp0':(0:Int)<W:=(by omega);simp[-getElem?_pos,e2,e3,e4,e5,e11,e12,e13,hlt,hlt',hlt1,cB,hvl',hdr,cx,hx,qx,hvwn,IntKind.bits,hs1,hp0,hp0',hwl1];rw[qI rfl];have cwl:=(qoX.1 cw).1;have hg:∀ y,(H2.set B2 y)[B2]?=some y:=fun y=>qo2 cwl
     have c52:∀ y,(H2.set B2 y)[H1.length]?=some (.cells [.ms B2 0 n 1]):=fun y=>by rw[qoY (by omega)];exact c5
     have hdw:∀ y,(ws.set dn.length y).drop dn.length=y::ws.drop (dn.length+1):=fun y=>by
      rw[qph (by simp;omega)];simp[List.drop_set]
     have hlt2:dn.length<ws.length:=(by omega);have fin:∀ ev' T',ev' 2=.ptr H.length 0->ev' 3=.ptr (H.length+1) 0->ev' 4=.ptr (H.length+2) 0->ev' 5=.ptr H1.length 0->ev' 11=.ms B 0 n 1->ev' 12=.int .i64 n->ev' 13=.int .i64 ((dn.length:Int)+1)->R ev' ⟨H2.set B2 (.cells (ws.set dn.length (.sl 1 [] .tight))),T'⟩:=by
      intro ev' T' a2 a3 a4 a5 a11 a12 a13;refine hR _ _ ⟨a2,a3,a4,a5,a11,a12,by rw[a13];simp,hk.setF (by omega),?_,?_,c52 _,_,hg _,by simp[hwl],fun x hx=>?_⟩
      . dsimp only;rw[qoY (by omega)];exact cx
      . dsimp only;rw[qoY (by omega)];exact cz
      . rcases qqp hx with h|rfl
        . exact hwe x h
        . exact .inl rfl
     simp[-getElem?_pos,qP,qfC,e2,e3,e4,e5,e11,e12,e13,hlt,hlt',hlt1,c5,qw,mkX,cw,hwl];refine⟨?_,?_⟩
     all_goals
      simp[-getElem?_pos,e2,e3,e4,e5,e11,e12,e13,hlt,hlt',hlt1,c52,hg,hdw,hwl,hlt2,ym,WT,hwl1];exact fin _ _ (by simp[e2]) (by simp[e3]) (by simp[e4]) (by simp[e5]) (by simp[e11]) (by simp[e12]) (by simp)
 . rintro ev ⟨H2,T2⟩ ⟨e2,e3,e4,e5,e11,e12,e13,hk,cx,cz,c5,ws,cw,hwl,hwe⟩;dsimp only at hk cx cz c5 cw;rw[<- hn]at e13;have czl:=(qoX.1 cz).1;simp[-getElem?_pos,e2,e3,e4,e5,e11,e12,e13,c5,cz,czl];refine⟨hk.setF (by omega),B2,ws,rfl,by omega,?_,hwl,hwe⟩;dsimp only;rw[qoY (by omega)];exact cw
theorem qhJ {p:Problem}{i:Nat}{l:List Int}(h:(kQ p)[i]?=some l):∃ v,p.vars[i]?=some v/\l=if v.mode=2 then (List.range (z4 v)).map (fun n:Nat=>(n:Int)) else []:=by
 unfold kQ at h;rw[qpj]at h
 cases hv:p.vars[i]? with
 | none=>rw[hv]at h;cases h
 | some v=>rw[hv]at h;exact⟨v,rfl,(Option.some.inj h).symm⟩
theorem qgR (v:Var):okL v.width ((List.range (z4 v)).map fun n:Nat=>(n:Int))=true:=by
 unfold okL;rw[qpa];intro k hk;have hk':k<z4 v:=by simpa using hk
 have e1:(((List.range (z4 v)).map fun n:Nat=>(n:Int)).getD k 0)=(k:Int):=by
  rw[qpg,qpj,qq0 hk'];rfl
 rw[e1];unfold okN;have h3:((2 ^ v.width.toNat:Nat):Int)=(2:Int) ^ v.width.toNat:=by simp
 have hk2:(k:Int)<(2:Int) ^ v.width.toNat:=by rw[<- h3];unfold z4 at hk';omega
 have hn:((((List.range (z4 v)).map fun n:Nat=>(n:Int)).take k).any ((k:Int) == ·))=false:=by
  rw[qqb];intro x hx;rw[<- List.map_take,List.take_range]at hx;obtain⟨j,hj,rfl⟩:=qpx.1 hx;have:=qp0.1 hj;simp;omega
 simp[hn,hk2]
theorem qaR (p:Problem):qaS p.vars (kQ p)=true:=by
 unfold qaS;simp only[qo0,decide_eq_true_eq];refine⟨by simp[kQ],?_⟩;rw[qpa];rintro⟨v,l⟩ hx;obtain⟨i,hi⟩:=qpD hx;obtain⟨h1,h2⟩:=qqi.1 hi;obtain⟨v',hv',rfl⟩:=qhJ h2;have:v'=v:=by rw[hv']at h1;exact Option.some.inj h1
 subst this;unfold okV;by_cases hm:v'.mode=2
 . simp[hm,qgR]
 . simp[hm,okL]
theorem qdW (e:Int):Pure Tryz.prog GG 20 [.int .i64 e] (.tup [.sl 0 [] .nil,.agg [.sl 0 [] .nil],.agg [.int .u64 0,.int .u64 0],.int .i64 e]):=by
 refine Pure.kO o0 true qe Tryz.func20 rfl (by kernel_rfl) ?_;simp[-getElem?_pos,zl,zP,qA];rw[qG (by rfl)];exact⟨rfl,Leq.refl _⟩
theorem qdM (p:Problem):∀ (l:List Nat) (a:List Int) (r:Rng),(qkP p l a r).2.2=0->(qkP p l a r).1.length=a.length
 | [],a,r,_=>rfl
 | gi::rest,a,r,h=>by
  unfold qkP at h⊢;split at h
  . exact absurd h (by assumption)
  . rename_i h1;rw[if_neg h1];split at h
    . exact absurd h (by assumption)
    . rename_i h2;rw[if_neg h2,qdM p rest _ _ h,YS]
theorem vC {p:Problem}{r:Rng}(h:(jB p r).2.2=0):(jB p r).1.length=p.vars.length:=by
 unfold jB at h⊢;split at h
 . exact absurd h (by assumption)
 . rename_i h1;rw[if_neg h1,qdM p _ _ _ h,kz]
theorem qkS (H:List Blk)(k t:Nat)(l:List Int):frz H (k+1) (Y8 1 qu t l)=if l=[] then .sl 0 [] .nil else .sl 1 (l.map qu) .none:=by
 by_cases h:l=[]
 . subst h;rw[if_pos rfl,qdk,qG (by simp)]
 . rw[if_neg h,WD h];unfold frz;rw[if_neg (by simp[qC])];have e:(l.map qu).map (·.map (frz H k))=l.map qu:=vJ (en:=qu) (fun _=>rfl) l;simp only[e];rw[if_pos];simp[qu,AV.atom]
theorem qaB (H:List Blk)(k:Nat):∀ (vs:List AV) (c:List (List Int)),VsOk vs c->jO ((vs.map fun v=>[v]).map (·.map (frz H (k+1)))) (c.map zB)/\(((vs.map fun v=>[v]).map (·.map (frz H (k+1)))).all (·.all AV.atom))=true
 | [],[],_=>by simp[jO]
 | [],_::_,h=>by have:=h.1;simp at this
 | _::_,[],h=>by have:=h.1;simp at this
 | v::vs,l::c,h=>by
  obtain⟨t,ht⟩:=h.2 0 l rfl;have ht:v=Y8 1 qu t l:=by simpa using ht
  obtain⟨h1,h2⟩:=qaB H k vs c ⟨by have:=h.1;simpa using this,fun i l' hl=>by
   obtain⟨t',ht'⟩:=h.2 (i+1) l' (by simpa using hl);exact⟨t',by simpa using ht'⟩⟩
  have e:=qkS H k t l;rw[<- ht]at e;have ha:AV.atom (frz H (k+1) v)=true:=by rw[e];split<;>rfl
  refine⟨?_,?_⟩
  . simp only[qo9,qpv,jO];refine⟨.inr ⟨?_,by simp[ha,AV.atom,zB]⟩,h1⟩;simp only[zB,zn,and_true];rw[e];split
    . rename_i h0;subst h0;simp[Leq]
    . exact Leq.refl _
  . simp only[qo9,qpv,qqB,List.all_nil,ha,qqN,qp9];exact h2
theorem qkT {B n:Nat}{vs:List AV}{c:List (List Int)}{H:List Blk}(hB:H[B]?=some (.cells vs))(hvs:VsOk vs c)(hn:c.length=n)(k:Nat):Leq (frz H (k+3) (.agg [.ms B 0 n 1])) (.agg (qa3 c)):=by
 obtain⟨h1,h2⟩:=qaB H k vs c hvs;have hl:vs.length=n:=by rw[hvs.1,hn]
 have hch:kw 1 n (vs.drop 0)=vs.map fun v=>[v]:=by
  have:=Go.Abs.chunk_flat (sz:=1) (en:=fun v:AV=>[v]) (fun _=>rfl) vs [];rw[<- hl];simpa using this
 have e1:frz H (k+2) (.ms B 0 n 1)=.sl 1 ((vs.map fun v=>[v]).map (·.map (frz H (k+1)))) .none:=by
  rw[frz];simp only[qC,qpi,if_false,hB,hch];rw[if_pos ⟨by omega,h2⟩]
 have e2:frz H (k+3) (.agg [.ms B 0 n 1])=.agg [frz H (k+2) (.ms B 0 n 1)]:=by
  rw[frz,if_neg (by simp[qC,qp])];rfl
 rw[e2,e1];simp only[Leq,zn,qa3,and_true];exact .inr ⟨trivial,h1,.inl trivial⟩
def qgF:List (Nat×Sch×List Nat):=[(16,.step 0 [14,12] (.step 1 [14,12,11,2] (.step 2 [14,12,11] (.step 3 [14,12,11,10,4] (.step 4 [14,12,11,10] (.step 5 [14,12,11,10,9,8,6] (.step 6 [14,12,11,10,9,8] (.step 7 [14,12,11,10,9,8] (.step 8 [14,12,11,10,9] (.step 9 [14,12,11,10] (.step 10 [14,12,11] (.step 11 [14,12] (.step 12 [14] (.step 13 [14] (.step 14 [] (.done))))))))))))))),[]),(29,.step 0 [15,14,1] (.step 1 [15,14] (.step 2 [15,14] (.step 3 [15,14,13,7,6,4] (.step 4 [15,14,13,7,6] (.step 5 [15,14,13,7,6] (.step 6 [15,14,13,7] (.step 7 [15,14,13] (.step 8 [15,14,13,12,11,10] (.step 9 [15,14,13,12,11,10] (.step 10 [15,14,13,12,11] (.step 11 [15,14,13,12] (.step 12 [15,14,13] (.step 13 [15,14] (.step 14 [15] (.step 15 [] (.done)))))))))))))))),[]),(31,.step 0 [6,5,4,3] (.step 1 [6,5,4] (.step 3 [6,5,4] (.fork (.cons 2 (.step 4 [6,5] (.step 5 [6] (.step 6 [] (.done)))) (.cons 4 (.step 2 [6,5] (.step 5 [6] (.step 6 [] (.done)))) (.nil)))))),[])]
def CySQ (p:Problem)(r:Rng)(H:List Blk)(v:AV)(U':St):Prop:=KpL [] H U'.H/\∃ w x,
 (((jB p r).2.2≠0/\v=.tup [.sl 0 [] .nil,.agg [x],.agg [.int .u64 0,.int .u64 0],.int .i64 (jB p r).2.2]) \/
   ((jB p r).2.2=0/\v=.tup [w,.agg [x],.agg (jV (jB p r).2.1),.int .i64 0]/\∃ b,qfD b U'.H w (jB p r).1))/\(x=.sl 0 [] .nil\/∃ B2,x=.ms B2 0 p.vars.length 1)
theorem qid (p:Problem)(h:VQ p)(hvp:qr p=0)(h0:p.vars≠[])(hv20:p.vars.length<=20)(hl12:(NG p).flatten.length<=12)(hb:yp p.vars (qy p)<=18)(hd:p.dists.length<=10000)(hs5:p.soft.length<=10000)(hws:∀ d∈p.dists,d.weights.length<=1000)(r:Rng)
 {B:Nat} {vs:List AV} {H:List Blk} (T:List (Option Nat)) (hB:H[B]?=some (.cells vs)) (hvs:VsOk vs (kQ p)) :
 qg Tryz.prog GG 8 [.agg (qL p),.agg [.ms B 0 p.vars.length 1],.agg (jV r)] ⟨H,T⟩ (CySQ p r H):=by
 refine qg.kO ⟨false,qgF,[],[]⟩ qe Tryz.func8 rfl (by kernel_rfl) ?_;have hw:∀ v∈p.vars,0<=v.width/\v.width<=8:=fun v hv=>by have:=zk (jA hvp v hv);omega
 have hval:=jZ p h;have hfl:(kQ p).length=p.vars.length:=by simp[kQ]
 have hfit:=qmo p (kQ p) (by omega) (by omega) (fun l hl=>by
  obtain⟨i,hi⟩:=qpD hl;obtain⟨v,hv,rfl⟩:=qhJ hi;have:=hw v (qoZ hv);split
  . have h3:2 ^ v.width.toNat<=2 ^ 8:=qpr (by omega) (by omega);simp[z4];omega
  . simp) (fun v hv=>by have:=hw v hv;omega)
 rw[qaR]at hfit;rw[hvp]at hval;have hrul:=Vl p h hv20 hb hd hs5;have hcop:=fun (H':List Blk) (T':List (Option Nat)) (hB':H'[B]?=some (.cells vs))=>qif p (by omega) h0 hw T' hB' hvs
 have hfz:=fun (H':List Blk) (hB':H'[B]?=some (.cells vs))=>qkT hB' hvs hfl 5
 simp[-getElem?_pos,jV];refine qc.call hval (by simp) ?_;simp[-getElem?_pos,qa hB];refine qc.lent hfit (by rfl) (by
  simp only[qo9,qpv,zn];refine⟨?_,?_,trivial⟩
  . rw[qG (by simp)];simp[Leq.refl]
  . exact hfz _ (qa hB _)) ?_
 simp[-getElem?_pos,qa hB];refine qc.call hrul (by simp) ?_;by_cases he:(zH p).2=0
 case neg=>
  have hsr:jB p r=([],(0,0),(zH p).2):=if_pos he;have hq:∀ X T',KpL [] H X->CySQ p r H (.tup [.sl 0 [] .nil,.agg [.sl 0 [] .nil],.agg [.int .u64 0,.int .u64 0],.int .i64 (zH p).2]) ⟨X,T'⟩:=fun X T' hX=>⟨hX,.any,.sl 0 [] .nil,.inl ⟨by rw[hsr];exact he,by rw[hsr]⟩,.inl rfl⟩
  simp[-getElem?_pos,he];refine qc.call (qdW _) (by simp) ?_;simp[-getElem?_pos];exact hq _ _ KpL.app
 simp[-getElem?_pos,he,qa hB];refine qc.acall (hcop _ _ (qa hB _)) ?_;rintro v ⟨H1,T1⟩ ⟨hk1,B2,ws,rfl,hB2,cw,hwl,hwe⟩;dsimp only at hk1 cw;have bx:=hk1.2 _ _ lk0 (by simp);have bh:=hk1.2 _ _ lk1 (by simp);have br:=hk1.2 _ _ lk2 (by simp);have b3:=hk1.2 _ _ lk3 (by simp);have b4:=hk1.2 _ _ lk4 (by simp);have hkH:KpL [] H H1:=KpL.app.trans hk1;have hlen1:=hk1.1;simp only[qo3,qpd,qpy]at hlen1 hB2;obtain⟨n,hn⟩:∃ n,n=p.vars.length:=⟨_,rfl⟩;rw[<- hn]at hwl;have hnp:0<n:=by rw[hn];exact qpe.2 h0
 simp[-getElem?_pos,qa bx,bx,<- hn];refine qJ.listR p.vars (fun dn ev U=>ev 3=.ptr H.length 0/\ev 5=.ptr (H.length+2) 0/\ev 7=.ptr (H.length+3) 0/\ev 8=.ptr (H.length+4) 0/\ev 10=.fn 20 [] []/\ev 14=.ptr H1.length 0/\ev 15=.ptr (H1.length+1) 0/\ev 65=.sl 4 (p.vars.map qx) .none/\ev 66=.int .i64 n/\ev 67=.int .i64 dn.length /\
  ∃ u,U.H=H1++.cells [.ms B2 0 n 1]::.cells (qL p)::u) ?_ ?_ ?_
 . exact⟨by simp,by simp,by simp,by simp,by simp,by simp,by simp,by simp,by simp,by simp,[],by simp⟩
 . rintro dn v rest ev ⟨H2,T2⟩ R hR hdd hx hlt ⟨e3,e5,e7,e8,e10,e14,e15,e65,e66,e67,u,rfl⟩;rw[<- hn]at hlt;have hlt':(dn.length:Int)<n:=(by omega);have hlt1:dn.length+1<=n:=(by omega);have hwl1:=wr (n:=(dn.length:Int)+1) (by omega) (by omega);have c14:∀ w,((H1++.cells [.ms B2 0 n 1]::.cells (qL p)::u)++w)[H1.length]?=some (.cells [.ms B2 0 n 1]):=fun w=>qa lk0 w
   have cws:∀ w,((H1++.cells [.ms B2 0 n 1]::.cells (qL p)::u)++w)[B2]?=some (.cells ws):=fun w=>qa (qa cw _) w
   have hcl:(H1++.cells [.ms B2 0 n 1]::.cells (qL p)::u).length=(H1++.cells [.ms B2 0 n 1]::.cells (qL p)::u).length:=rfl;obtain⟨x,hxw⟩:∃ x,ws[dn.length]?=some x:=⟨_,qo1 (by omega)⟩;have hxe:=hwe x (qoZ hxw);have hdr:ws.drop dn.length=x::ws.drop (dn.length+1):=by
    obtain⟨h1,h2⟩:=qoX.1 hxw;rw[qph h1,h2]
   have fin:∀ ev' T' w,ev' 3=.ptr H.length 0->ev' 5=.ptr (H.length+2) 0->ev' 7=.ptr (H.length+3) 0->ev' 8=.ptr (H.length+4) 0->ev' 10=.fn 20 [] []->ev' 14=.ptr H1.length 0->ev' 15=.ptr (H1.length+1) 0->ev' 65=.sl 4 (p.vars.map qx) .none->ev' 66=.int .i64 n->ev' 67=.int .i64 ((dn.length:Int)+1) ->
    R ev' ⟨(H1++.cells [.ms B2 0 n 1]::.cells (qL p)::u)++w,T'⟩:=fun ev' T' w a3 a5 a7 a8 a10 a14 a15 a65 a66 a67=>hR _ _ ⟨a3,a5,a7,a8,a10,a14,a15,a65,a66,by rw[a67];simp,u++w,by simp⟩
   generalize (H1++.cells [.ms B2 0 n 1]::.cells (qL p)::u)=HH at *;rcases hxe with rfl|rfl
   all_goals
    by_cases hm:v.mode=2
    . simp[-getElem?_pos,e3,e5,e7,e8,e10,e14,e15,e65,e66,e67,hlt,hlt',hlt1,hx,qx,hm,c14,cws,hdr,hwl,hwl1];exact fin _ _ _ (by simp[e3]) (by simp[e5]) (by simp[e7]) (by simp[e8]) (by simp[e10]) (by simp[e14]) (by simp[e15]) (by simp[e65]) (by simp[e66]) (by simp)
    . simp[-getElem?_pos,e3,e5,e7,e8,e10,e14,e15,e65,e66,e67,hlt,hlt',hlt1,hx,qx,hm,c14,cws,hdr,hwl,hwl1];exact fin _ _ _ (by simp[e3]) (by simp[e5]) (by simp[e7]) (by simp[e8]) (by simp[e10]) (by simp[e14]) (by simp[e15]) (by simp[e65]) (by simp[e66]) (by simp)
 . rintro ev ⟨H2,T2⟩ ⟨e3,e5,e7,e8,e10,e14,e15,e65,e66,e67,u,rfl⟩;rw[<- hn]at e67;have c15:∀ w,((H1++.cells [.ms B2 0 n 1]::.cells (qL p)::u)++w)[H1.length+1]?=some (.cells (qL p)):=fun w=>qa lk1 w
   have k2:KpL [] H1 (H1++.cells [.ms B2 0 n 1]::.cells (qL p)::u):=KpL.app;have c14:(H1++.cells [.ms B2 0 n 1]::.cells (qL p)::u)[H1.length]?=some (.cells [.ms B2 0 n 1]):=lk0;generalize (H1++.cells [.ms B2 0 n 1]::.cells (qL p)::u)=H2 at *;have c15':=c15 [];rw[qpB]at c15';have bx2:=k2.2 _ _ bx (by simp);have br2:=k2.2 _ _ br (by simp);have b32:=k2.2 _ _ b3 (by simp);have b42:=k2.2 _ _ b4 (by simp);have cw2:=k2.2 _ _ cw (by simp);have hkH2:=hkH.trans k2;have hrs:=Vk p h hv20 (fun _=>hl12) hb hd hs5 hws r H2 T2;simp only[qL]at hrs c15';simp only[jV]at hrs;simp[-getElem?_pos,e3,e5,e7,e8,e10,e14,e15,e65,e66,e67,c15',br2];refine qc.acall hrs ?_;rintro v ⟨H3,T3⟩ ⟨k3,w,b,rfl,hrow,hbge⟩;dsimp only at k3 hrow;have br3:=k3.2 _ _ br2 (by simp);have b33:=k3.2 _ _ b32 (by simp);have b43:=k3.2 _ _ b42 (by simp);have cw3:=k3.2 _ _ cw2 (by simp);have c143:=k3.2 _ _ c14 (by simp);have bx3:=k3.2 _ _ bx2 (by simp);have hkH3:=hkH2.trans k3;have br3l:=(qoX.1 br3).1;have b33l:=(qoX.1 b33).1;have b43l:=(qoX.1 b43).1;have c14l:=(qoX.1 c14).1;have hqlen:=vC (p:=p) (r:=r);obtain⟨a,rr,er,hqe⟩:∃ a rr er,jB p r=(a,rr,er):=⟨_,_,_,rfl⟩;rw[hqe]at hrow hqlen ⊢;unfold CySQ;rw[hqe];dsimp only at hrow hqlen ⊢;by_cases her:er=0
   case neg=>
    simp[-getElem?_pos,e3,e5,e7,e8,e10,e14,e15,br3,br3l,jV,her];refine qc.call (qdW _) (by simp) ?_;simp[-getElem?_pos,e3,e5,e7,e8,e10,e14,e15,br3,br3l,jV,her,qqM,b33,b43,b33l,b43l];exact ((hkH3.setF (by omega)).setF (by omega)).setF (by omega)
   subst her;have hal:=hqlen rfl;rw[<- hn]at hal;have hane:a≠[]:=fun e=>by rw[e]at hal;simp at hal;omega
   rcases hrow with ⟨hax,_⟩|⟨_,rfl,hbr⟩
   . exact absurd hax hane
   rw[hal];have k2l:=k2.1;have hB2l:=(qoX.1 cw).1;have hb1:H1.length<=b:=(by omega);have hne:∀ k,k≠H.length+2->∀ y,(H3.set (H.length+2) y)[k]?=H3[k]? := fun k hk y=>qoY (Ne.symm hk)
   have d14:∀ y,(H3.set (H.length+2) y)[H1.length]?=some (.cells [.ms B2 0 n 1]):=fun y=>by rw[hne _ (by omega)];exact c143
   have dx:∀ y,(H3.set (H.length+2) y)[H.length]?=_:=fun y=>(hne _ (by omega) y).trans bx3
   have d3:∀ y,(H3.set (H.length+2) y)[H.length+3]?=_:=fun y=>(hne _ (by omega) y).trans b33
   have d4:∀ y,(H3.set (H.length+2) y)[H.length+4]?=_:=fun y=>(hne _ (by omega) y).trans b43
   have dw:∀ y,(H3.set (H.length+2) y)[B2]?=some (.cells ws):=fun y=>by rw[hne _ (by omega)];exact cw3
   have db:∀ y,(H3.set (H.length+2) y)[b]?=some (.cells (zK a)):=fun y=>by rw[hne _ (by omega)];exact hbr
   have dr:∀ y,(H3.set (H.length+2) y)[H.length+2]?=some y:=fun y=>qo2 br3l
   simp[-getElem?_pos,e3,e5,e7,e8,e10,e14,e15,br3,br3l,jV,dx];refine qJ.listR p.vars (fun dn ev U=>ev 5=.ptr (H.length+2) 0/\ev 7=.ptr (H.length+3) 0/\ev 8=.ptr (H.length+4) 0/\ev 14=.ptr H1.length 0/\ev 21=.ms b 0 n 1/\ev 127=.sl 4 (p.vars.map qx) .none/\ev 128=.int .i64 n/\ev 129=.int .i64 dn.length /\
    KpL [] H U.H/\U.H[H.length+2]?=some (.cells [.int .u64 rr.1,.int .u64 rr.2])/\U.H[H.length+3]?=some (.cells [.sl 0 [] .nil])/\U.H[H.length+4]?=some (.cells [.int .u64 0,.int .u64 0])/\U.H[H1.length]?=some (.cells [.ms B2 0 n 1])/\U.H[b]?=some (.cells (zK a)) /\
    ∃ ws:List AV,U.H[B2]?=some (.cells ws)/\ws.length=n/\∀ i x,dn.length<=i->ws[i]?=some x->EmpV x) ?_ ?_ ?_
   . exact⟨by simp[e5],by simp[e7],by simp[e8],by simp[e14],by simp,by simp,by simp[hn],by simp,hkH3.setF (by omega),dr _,d3 _,d4 _,d14 _,db _,ws,dw _,hwl,fun i x _ hx=>hwe x (qoZ hx)⟩
   . rintro dn v rest ev ⟨H5,T5⟩ R hR hdd hx hlt ⟨e5,e7,e8,e14,e21,e127,e128,e129,hk5,f2,f3,f4,f14,fb,ws5,fw,hw5l,hw5⟩;dsimp only at hk5 f2 f3 f4 f14 fb fw;rw[<- hn]at hlt;have hlt':(dn.length:Int)<n:=(by omega);have hlt1:dn.length+1<=n:=(by omega);have hwl1:=wr (n:=(dn.length:Int)+1) (by omega) (by omega);obtain⟨x,hxw⟩:∃ x,ws5[dn.length]?=some x:=⟨_,qo1 (by omega)⟩;have hxe:=hw5 _ x (qo7 _) hxw;have hdr:ws5.drop dn.length=x::ws5.drop (dn.length+1):=by
      obtain⟨h1,h2⟩:=qoX.1 hxw;rw[qph h1,h2]
     obtain⟨z,hz⟩:∃ z,a[dn.length]?=some z:=⟨_,qo1 (by omega)⟩;have hdz:(zK a).drop dn.length=.int .i64 z::(zK a).drop (dn.length+1):=by
      have h0:(zK a)[dn.length]?=some (.int .i64 z):=(by rw[YM,hz];rfl);obtain⟨h1,h2⟩:=qoX.1 h0;rw[qph h1,h2]
     by_cases hm:v.mode=2
     . rcases hxe with rfl|rfl
       all_goals
        simp[-getElem?_pos,e5,e7,e8,e14,e21,e127,e128,e129,hlt,hlt',hlt1,hx,qx,hm,hwl1];rw[qI rfl];simp[-getElem?_pos,qP,e5,e7,e8,e14,e21,e127,e128,e129,hlt,hlt',hlt1,hx,qa f14,qa fw,qa fb,hdr,hdz,hw5l,za,hal,qN,zI,qm,qz,hwl1];have fwl:=(qoX.1 fw).1;refine hR _ _ ⟨by simp[e5],by simp[e7],by simp[e8],by simp[e14],by simp[e21],by simp[e127],by simp[e128],by simp,(hk5.trans KpL.app).setF (by omega),?_,?_,?_,?_,?_,_,qo2 (by simp;omega),by simp[hw5l],fun i x hi hx=>?_⟩
        . dsimp only;rw[qoY (by omega)];exact qa f2 _
        . dsimp only;rw[qoY (by omega)];exact qa f3 _
        . dsimp only;rw[qoY (by omega)];exact qa f4 _
        . dsimp only;rw[qoY (by omega)];exact qa f14 _
        . dsimp only;rw[qoY (by omega)];exact qa fb _
        . simp at hi;rw[qoY (by omega)]at hx;exact hw5 i x (by omega) hx
     . simp[-getElem?_pos,e5,e7,e8,e14,e21,e127,e128,e129,hlt,hlt',hlt1,hx,qx,hm,hwl1];refine hR _ _ ⟨by simp[e5],by simp[e7],by simp[e8],by simp[e14],by simp[e21],by simp[e127],by simp[e128],by simp,hk5.trans KpL.app,qa f2 _,qa f3 _,qa f4 _,qa f14 _,qa fb _,ws5,qa fw _,hw5l,fun i x hi hx=>hw5 i x (by simp at hi;omega) hx⟩
   . rintro ev ⟨H5,T5⟩ ⟨e5,e7,e8,e14,e21,e127,e128,e129,hk5,f2,f3,f4,f14,fb,ws5,fw,hw5l,hw5⟩;dsimp only at hk5 f2 f3 f4 f14 fb fw;rw[<- hn]at e129;have f3l:=(qoX.1 f3).1;have f4l:=(qoX.1 f4).1;simp[-getElem?_pos,e5,e7,e8,e14,e21,e127,e128,e129];rw[qI rfl];have g3:∀ y,(H5.set (H.length+3) y)[H.length+3]?=some y:=fun y=>qo2 f3l
     have g34:∀ y,(H5.set (H.length+3) y)[H.length+4]?=some (.cells [.int .u64 0,.int .u64 0]):=fun y=>by rw[qoY (by omega)];exact f4
     have g4:∀ y z,((H5.set (H.length+3) y).set (H.length+4) z)[H.length+4]?=some z:=fun y z=>qo2 (by simp;omega)
     have g43:∀ y z,((H5.set (H.length+3) y).set (H.length+4) z)[H.length+3]?=some y:=fun y z=>by rw[qoY (by omega)];exact g3 y
     simp[-getElem?_pos,qP,e5,e7,e8,e14,e21,f2,f3,f4,f14,g3,g34,g4,g43];refine⟨(hk5.setF (by omega)).setF (by omega),_,_,⟨⟨rfl,rfl⟩,b,.inr ⟨hane,by rw[hal],?_⟩⟩,.inr ⟨B2,by rw[hn]⟩⟩;rw[qoY (by omega),qoY (by omega)];exact fb
theorem wP:Pure Tryz.prog GG 21 [.agg [.sl 4 [[.str [97],.int .i64 1,.int .i64 2,.int .i64 0]] .tight,.sl 0 [] .nil,.sl 0 [] .nil,.sl 0 [] .nil,.sl 1 [[.sl 1 [[.int .i64 0]] .tight]] .tight]] (.int .i64 0):=Pure.closedA FV_ok (K:=K0) jJ 2000 60 (by kernel_rfl)
theorem Qa:Pure Tryz.prog GG 21 [.agg [.sl 4 [[.str [97],.int .i64 1,.int .i64 2,.int .i64 0]] .tight,.sl 4 [[.int .i64 23,.int .i64 0,.str [],.sl 4 [[.int .i64 2,.int .i64 0,.str [97],.sl 0 [] .nil],[.int .i64 1,.int .i64 0,.str [],.sl 0 [] .nil],[.int .i64 1,.int .i64 0,.str [],.sl 0 [] .nil]] .none]] .none,.sl 0 [] .nil,.sl 0 [] .nil,.sl 1 [[.sl 1 [[.int .i64 0]] .tight]] .tight]] (.int .i64 0):=Pure.closedA FV_ok (K:=K0) jJ 2000 60 (by kernel_rfl)
def KV (g:FuncId):Bool:=Nat.beq g 21
def XV (g:FuncId)(args:List AV):Option AV :=
 qK (Nat.beq g 21&&yr args [.agg [.sl 4 [[.str [97],.int .i64 1,.int .i64 2,.int .i64 0]] .tight,.sl 0 [] .nil,.sl 0 [] .nil,.sl 0 [] .nil,.sl 1 [[.sl 1 [[.int .i64 0]] .tight]] .tight]]) (some (.int .i64 0)) <|
 qK (Nat.beq g 21&&yr args [.agg [.sl 4 [[.str [97],.int .i64 1,.int .i64 2,.int .i64 0]] .tight,.sl 4 [[.int .i64 23,.int .i64 0,.str [],.sl 4 [[.int .i64 2,.int .i64 0,.str [97],.sl 0 [] .nil],[.int .i64 1,.int .i64 0,.str [],.sl 0 [] .nil],[.int .i64 1,.int .i64 0,.str [],.sl 0 [] .nil]] .none]] .none,.sl 0 [] .nil,.sl 0 [] .nil,.sl 1 [[.sl 1 [[.int .i64 0]] .tight]] .tight]]) (some (.int .i64 0)) <|
 none
theorem XV_ok:qfF Tryz.prog GG XV:=by
 intro g args r h;unfold XV at h;rcases qv wP h with h|h
 . exact h
 rcases qv Qa h with h|h
 . exact h
 cases h
end Go.Proofs.YtcadpamddlofjaaGreatDoor
end
