/- A part of the proof. -/
import Derived.Test.YtoibbcnfhhggnaaGreatDoorPc27
import Derived.Test.YtoibbcnfhhggnaaGreatDoorPc29
import Derived.SizedLaws
set_option maxHeartbeats 16000000
set_option linter.unusedVariables false
set_option linter.unusedSimpArgs false
set_option maxRecDepth 100000
set_option linter.defProp false
section
namespace Go.Proofs.YtoibbcnfhhggnaaGreatDoor
open Go Go.Abs
def fxE (e:Nat×Nat×Nat):AV×AV×Nat:=(.int .i64 (e.1:Int),.int .i64 (e.2.1:Int),e.2.2)
def fxO:List (Nat×Nat×Nat)->Nat->Option Nat
 | [],_=>none
 | e::r,i=>if e.1=i then some e.2.1 else fxO r i
def yF (f:Nat->Option Nat)(i x:Nat):Nat->Option Nat:=fun k=>if k=i then some x else f k
theorem qcO (i:Nat):∀ (E:List (Nat×Nat×Nat)) (k:Nat),(fxO E i=none/\jD (.int .i64 (i:Int)) (E.map fxE) k=some none/\∀ y c,fxO (E++[(i,y,c)])=yF (fxO E) i y) \/
 ∃ j x,fxO E i=some x/\jD (.int .i64 (i:Int)) (E.map fxE) k=some (some (k+j,.int .i64 (x:Int)))/\∀ y:Nat,∃ E':List (Nat×Nat×Nat),(E.map fxE).modify j (fun e=>(.int .i64 (i:Int),.int .i64 (y:Int),e.2.2))=E'.map fxE/\fxO E'=yF (fxO E) i y:=by
 intro E
 induction E with
 | nil=>
  intro k;refine .inl ⟨rfl,rfl,fun y c=>?_⟩;funext j;by_cases h:j=i
  . subst h;simp[fxO,yF]
  . simp[fxO,yF,h];exact fun e=>h e.symm
 | cons e r ih=>
  intro k;by_cases he:e.1=i
  . refine .inr ⟨0,e.2.1,by simp[fxO,he],?_,fun y=>⟨(i,y,e.2.2)::r,by simp[fxE,List.modify],?_⟩⟩
    . simp[fxE,jD,Qz,he]
    . funext j;by_cases h:j=i
      . subst h;simp[fxO,yF]
      . have h':¬ i=j:=fun e=>h e.symm
        simp[fxO,yF,h,h',he]
  . have hne:¬ (i:Int)=(e.1:Int):=(by omega);have hfind:jD (.int .i64 (i:Int)) ((e::r).map fxE) k=jD (.int .i64 (i:Int)) (r.map fxE) (k+1):=by
     have hb:((i:Int)==(e.1:Int))=false:=(by simpa using hne);simp[fxE,jD,Qz,hb]
    rcases ih (k+1) with ⟨h1,h2,h3⟩|⟨j,x,h1,h2,h3⟩
    . refine .inl ⟨by simp[fxO,he,h1],by rw[hfind,h2],fun y c=>?_⟩;funext a;have:=congrFun (h3 y c) a;simp only[yF]at this ⊢;by_cases ha:e.1=a
      . have hai:¬ a=i:=fun h=>he (ha.trans h)
        simp[fxO,ha,hai]
      . simp[fxO,ha,this]
    . refine .inr ⟨j+1,x,by simp[fxO,he,h1],by rw[hfind,h2,qsd,qrO 1 j],fun y=>?_⟩;obtain⟨E',e1,e2⟩:=h3 y;refine⟨e::E',by simp[List.modify,<- e1],?_⟩;funext a;have:=congrFun e2 a;simp only[yF]at this ⊢;by_cases ha:e.1=a
      . have hai:¬ a=i:=fun h=>he (ha.trans h)
        simp[fxO,ha,hai]
      . simp[fxO,ha,this]
def FxS (F:Nat)(fx:Nat->Option Nat)(H:List Blk):Prop:=∃ E n,H[F]?=some (.map (E.map fxE) n)/\fxO E=fx
theorem FxS.ok {F:Nat}{fx:Nat->Option Nat}{H:List Blk}(h:FxS F fx H):qgE (.map F) fx H:=by
 obtain⟨E,n,h1,rfl⟩:=h;refine .inr ⟨F,_,n,rfl,h1,fun i=>?_⟩;rcases qcO i E 0 with ⟨h1,h2,_⟩|⟨j,x,h1,h2,_⟩
 . rw[h1];exact h2
 . rw[h1];exact⟨_,h2⟩
theorem FxS.set {F:Nat}{fx:Nat->Option Nat}{H:List Blk}(h:FxS F fx H)(i y:Nat):∃ B,(∀ T,za (Dof Tryz.prog) ⟨H,T⟩ 146 (.map F) (.int .i64 (i:Int)) (.int .i64 (y:Int))=some ⟨H.set F B,T⟩)/\FxS F (yF fx i y) (H.set F B):=by
 obtain⟨E,n,h1,rfl⟩:=h;have hl:=(qp5.1 h1).1;rcases qcO i E 0 with ⟨_,h2,h3⟩|⟨j,x,_,h2,h3⟩
 . refine⟨.map ((E++[(i,y,n)]).map fxE) (n+1),fun T=>by simp[za,zC,h1,h2,fxE],E++[(i,y,n)],n+1,qqa hl,h3 y n⟩
 . obtain⟨E',e1,e2⟩:=h3 y;rw[qrX]at h2;exact⟨.map (E'.map fxE) n,fun T=>by simp[za,zC,h1,h2,e1],E',n,qqa hl,e2⟩
theorem FxS.keep {F:Nat}{fx:Nat->Option Nat}{H H':List Blk}{bs:List Nat}(h:FxS F fx H)(hk:KpL bs H H')(hb:F∉bs):FxS F fx H':=by
 obtain⟨E,n,h1,h2⟩:=h;exact⟨E,n,hk.2 _ _ h1 hb,h2⟩
theorem FxS.ne {F N:Nat}{fx:Nat->Option Nat}{H:List Blk}{B:Blk}(h:FxS F fx H)(hb:N≠F):FxS F fx (H.set N B):=by
 obtain⟨E,n,h1,h2⟩:=h;exact⟨E,n,by rw[qp7 hb];exact h1,h2⟩
theorem qav (f:Nat->Option Nat)(i x:Nat):yF f i x i=some x:=by simp[yF]
theorem qkj (f:Nat->Option Nat)(i x y:Nat):yF (yF f i x) i y=yF f i y:=by
 funext k;by_cases h:k=i<;>simp[yF,h]
theorem FxS.get {F:Nat}{fx:Nat->Option Nat}{H:List Blk}(h:FxS F fx H){i x:Nat}(hx:fx i=some x)(T:List (Option Nat)):zx (Dof Tryz.prog) ⟨H,T⟩ 146 (.map F) (.int .i64 (i:Int)) false=some (.int .i64 (x:Int)):=by
 obtain⟨E,n,h1,rfl⟩:=h;rcases qcO i E 0 with ⟨h2,_,_⟩|⟨j,x',h2,h3,_⟩
 . rw[hx]at h2;cases h2
 . rw[hx]at h2;cases h2;simp[zx,zC,h1,h3]
theorem qgc (l:List Int):(l.map qy).flatten=zF l:=by
 induction l with
 | nil=>rfl
 | cons a r ih=>rw[qqk,qqO,ih];rfl
theorem qjg {r:AV}{a:List Int}{H:List Blk}(hr:AsR r a H)(ha:a≠[])(hl:a.length<=1000)(T:List (Option Nat)) :
 qg Tryz.prog GG 96 [r] ⟨H,T⟩ (fun v U'=>v=.ms H.length 0 a.length 1/\U'=⟨H++[.cells (zF a)],T⟩):=by
 refine qg.kO ⟨true,[],[],[]⟩ qe Tryz.func96 rfl (by kernel_rfl) ?_;rcases hr with ⟨tok,rfl⟩|⟨N,rfl,hA⟩
 . cases a with
   | nil=>exact absurd rfl ha
   | cons x a=>
    have h2:a.length+1<=549755813888:=(by simp at hl;omega);have h3:=qgc (x::a);simp only[qqk]at h3;simp[-getElem?_pos,zs,z6,qS,KK,h2];exact h3
 . have h2:a.length<=549755813888:=(by omega);have h1:(zF a).take a.length=zF a:=qqg (by rw[qY];exact qqf _);simp[-getElem?_pos,hA,zs,z6,qS,KK,qY,h1,h2,ha]
theorem qlF {s:List Int}{x z:Int}:z∈qes s x↔z∈s\/z=x:=by
 have:∀ (s:List Int),z∈qgB s x↔z∈s\/z=x:=by
  intro s
  induction s with
  | nil=>simp[qgB]
  | cons y r ih=>
   unfold qgB;split
   . simp only[qqv,ih];constructor
     . rintro (h|h|h)<;>simp[h]
     . rintro ((h|h)|h)<;>simp[h]
   . simp only[qqv];constructor
     . rintro (h|h|h)<;>simp[h]
     . rintro ((h|h)|h)<;>simp[h]
 rw[qes,List.mem_reverse,this,List.mem_reverse]
theorem qbh {z:Int}:∀ (n:Nat) (l:List Int),l.length=n->(z∈wA l↔z∈l):=by
 intro n
 induction n with
 | zero=>intro l h;rw[qqj h];rfl
 | succ n ih=>
  intro l h;have hne:l≠[]:=fun e=>by rw[e]at h;simp at h
  have e:=qqU hne;rw[<- e,ZV,qlF,ih _ (by simp[h])];simp
def yp (g:List Nat):List Nat:=(wA (g.map fun n:Nat=>(n:Int))).map Int.toNat
theorem qdJ (g:List Nat):wA (g.map fun n:Nat=>(n:Int))=(yp g).map fun n:Nat=>(n:Int):=by
 unfold yp;rw[qrp]
 symm
 conv=>rhs;rw[<- List.map_id (wA _)]
 refine qrd fun z hz=>?_
 rw[qbh _ _ rfl]at hz;obtain⟨n,_,rfl⟩:=qqx.1 hz;rfl
theorem Ys {g:List Nat}{i:Nat}:i∈yp g↔i∈g:=by
 have:((i:Int)∈wA (g.map fun n:Nat=>(n:Int)))↔(i:Int)∈(g.map fun n:Nat=>(n:Int)):=qbh _ _ rfl;rw[qdJ]at this;have key:∀ l:List Nat,((i:Int)∈l.map fun n:Nat=>(n:Int))↔i∈l:=fun l=>by
  rw[qqx];exact⟨fun ⟨n,hn,e⟩=>by
   have:n=i:=by omega
   exact this▸hn,fun h=>⟨i,h,rfl⟩⟩
 rwa[key,key]at this
theorem qaG (g:List Nat):(yp g).length=g.length:=by
 unfold yp;rw[qqI,Y9 _ _ rfl,qqI]
def j9 (F:Nat->Nat):Nat->Nat->Int->Nat×Int
 | 0,x,idx=>(x,idx)
 | n+1,x,idx=>if idx<F x then (x,idx) else if n=0 then (x,idx-F x) else j9 F n (x+1) (idx-F x)
def wdN (p:Problem)(i:Nat):Nat:=match p.vars[i]? with | some v=>v.width.toNat | none=>0
noncomputable def chS (s:Spc)(d:List Nd)(a:List Int)(gi:Nat):List Nat->(Nat->Option Nat)->Int->List Int->List Int
 | [],_,_,out=>out
 | i::r,fx,idx,out=>
  let q:=j9 (fun x=>Vc s d (yF fx i x) a gi) (2 ^ wdN s.p i) 0 idx
  chS s d a gi r (yF fx i q.1) q.2 (out.set i q.1)
noncomputable def VY (s:Spc)(d:List Nd)(gi:Nat)(a:List Int)(idx:Int):List Int:=chS s d a gi (yp ((NG s.p).getD gi [])) (fun _=>none) idx a
def ChQ (out:List Int)(H:List Blk)(v:AV)(U':St):Prop:=KpL [] H U'.H/\∃ N,v=.ms N 0 out.length 1/\H.length<=N/\U'.H[N]?=some (.cells (zF out))
theorem qmp {s:Spc}{d:List Nd}(h:SpV s d)(hl12:(NG s.p).flatten.length<=12){gi:Nat}(hgi:gi<(NG s.p).length){r:AV}{a:List Int}{H:List Blk}(hao:AOk s.p a)(hal:a.length=s.p.vars.length)(hs:SpOk s H)(ha:AsR r a H)(T:List (Option Nat))
 {idx:Int} (hi0:0<=idx) (hi1:idx<2 ^ 62) :
 qg Tryz.prog GG 64 [.ptr s.S 0,.int .i64 gi,r,.int .i64 idx] ⟨H,T⟩ (ChQ (VY s d gi a idx) H):=by
 refine qg.k qe Tryz.func64 rfl (by kernel_rfl) ?_;obtain⟨g,hg⟩:∃ g,(NG s.p)[gi]?=some g:=⟨_,qp8 hgi⟩;have hgd:(NG s.p).getD gi []=g:=by simp[qqh,hg]
 have hgm:=qp6 hg;have hmf:∀ i∈g,i∈(NG s.p).flatten:=fun i hi=>qre.2 ⟨g,hgm,hi⟩
 have hg12:g.length<=12:=by
  have:∀ (G:List (List Nat)),g∈G->g.length<=G.flatten.length:=by
   intro G
   induction G with
   | nil=>intro h;simp at h
   | cons x r ih=>
    intro h;rw[qqO,qqb];rcases qqv.1 h with rfl|h
    . omega
    . have:=ih h;omega
  exact qq9 (this _ hgm) hl12
 have hgne:g≠[]:=by
  obtain⟨g',hg',rfl⟩:=qqx.1 hgm;have:=(j8 h.vp).1 g' hg';simpa using this
 have hane:a≠[]:=by
  intro e;obtain⟨i,r',rfl⟩:=qsh hgne;obtain⟨n,hn,_⟩:=hao i (hmf i (by simp));rw[e]at hn;simp at hn
 have hvl:=h.vq.vars;have hcl:=qjg ha hane (by omega) T;have hG:=qe1 h.vp;have hS:=hs.c;simp only[spE,qJ,qqB,qqw,hG]at hS;have hgil:gi<s.p.groups.length:=by
  have:(NG s.p).length=s.p.groups.length:=by simp[NG]
  omega
 have hval:=qgV (g.map fun n:Nat=>(n:Int)) .none (by simp);have hsrt:=qfv (g.map fun n:Nat=>(n:Int)) (by simpa using hg12) .none;have hrw:JG (g.map fun n:Nat=>(n:Int))=g.map zP:=by simp[JG,zP]
 have hnr:qQ (g.map zP)=true:=by rw[<- hrw];exact wJ _
 rw[hrw]at hval hsrt;rw[qdJ,qrp]at hsrt;have hsm:((yp g).map (qy∘fun n:Nat=>(n:Int)))=(yp g).map zP:=by simp[qy,zP]
 rw[hsm]at hsrt;have hsl:(yp g).length<=12:=by rw[qaG];exact hg12
 have hNl:(NG s.p).length=s.p.groups.length:=by simp[NG]
 unfold VY;rw[hgd];simp[-getElem?_pos];refine qc.acall hcl ?_;rintro v U ⟨rfl,rfl⟩;have hS1:=qa hS [.cells (zF a)];simp[-getElem?_pos,hS,hg,yx,qa];refine qc.call hval (by simp[hnr]) ?_;simp[-getElem?_pos];refine qc.call hsrt (by simp[hnr]) ?_;simp[-getElem?_pos];refine qL.listR (yp g) (fun dn ev U=>ev 0=.ptr s.S 0/\ev 1=.int .i64 gi/\ev 2=r/\ev 9=.ms H.length 0 a.length 1/\ev 10=.map (H.length+1)/\ev 27=.sl 1 ((yp g).map zP) .none/\ev 28=.int .i64 (yp g).length/\ev 29=.int .i64 dn.length /\
  ∃ (rest:List Nat) (fx:Nat->Option Nat) (ix:Int) (out:List Int),yp g=dn++rest/\ev 3=.int .i64 ix/\chS s d a gi rest fx ix out=chS s d a gi (yp g) (fun _=>none) idx a/\KpL [] H U.H/\U.H[H.length]?=some (.cells (zF out))/\FxS (H.length+1) fx U.H/\out.length=a.length/\0<=ix/\ix<2 ^ 62/\∀ i x,fx i=some x->x<65536) ?_ ?_ ?_
 . exact⟨by simp,by simp,by simp,by simp,by simp,by simp,by simp,by simp,yp g,fun _=>none,idx,a,rfl,by simp,rfl,KpL.app,by simp,⟨[],0,by simp,rfl⟩,rfl,hi0,hi1,by simp⟩
 . rintro dn i rest0 ev ⟨H1,T1⟩ R hR hd hx hlt ⟨e0,e1,e2,e9,e10,e27,e28,e29,rest,fx,ix,out,hre,e3,hch,hk,hN,hF,hol,hx0,hx1,hfx⟩;dsimp only at hk hN hF;have hre':rest=i::rest0:=by
    have:=hre.symm.trans hd;simpa using this
   subst hre';have hig:i∈g:=Ys.1 (qp6 hx);obtain⟨v,l,hv,hw0,hw8,_,_,_⟩:=h.gr hmf i hig;have hvi:=(qp5.1 hv).1;have hwd:wdN s.p i=v.width.toNat:=(by unfold wdN;rw[hv]);have hs1:=kg hw0 (by omega);have hwn:¬ v.width<0:=(by omega);have hp8:2 ^ v.width.toNat<=2 ^ 8:=qqu (by omega) (by omega);have hp0:0<2 ^ v.width.toNat:=qrw _;obtain⟨W,hW⟩:∃ W,W=2 ^ v.width.toNat:=⟨_,rfl⟩;have hch':chS s d a gi rest0 (yF fx i (j9 (fun x=>Vc s d (yF fx i x) a gi) W 0 ix).1) (j9 (fun x=>Vc s d (yF fx i x) a gi) W 0 ix).2 (out.set i (j9 (fun x=>Vc s d (yF fx i x) a gi) W 0 ix).1)=chS s d a gi (yp g) (fun _=>none) idx a:=by
    rw[<- hch,hW,<- hwd];rfl
   rw[<- hW]at hs1 hp8 hp0;generalize hSF:(fun x=>Vc s d (yF fx i x) a gi)=SF at *;have hSFx:∀ x,SF x=Vc s d (yF fx i x) a gi:=fun x=>by rw[<- hSF]
   have hwl:=wr (n:=(dn.length:Int)+1) (by omega) (by omega);have hS1:=hk.2 _ _ hS (by simp);have hlt':(dn.length:Int)<(yp g).length:=(by omega);simp[-getElem?_pos,e0,e27,e28,e29,hlt',hx,zP,hS1,hv,hwn,IntKind.bits,hs1];refine qL.gen (fun n ev U=>ev 0=.ptr s.S 0/\ev 1=.int .i64 gi/\ev 2=r/\ev 9=.ms H.length 0 a.length 1/\ev 10=.map (H.length+1)/\ev 12=.int .i64 i/\ev 27=.sl 1 ((yp g).map zP) .none/\ev 28=.int .i64 (yp g).length/\ev 29=.int .i64 dn.length/\ev 42=.int .i64 W /\
    ∃ (x:Nat) (fc:Nat->Option Nat) (ic:Int),n=W-x/\ev 3=.int .i64 ic/\ev 43=.int .i64 x/\KpL [] H U.H/\U.H[H.length]?=some (.cells (zF out))/\FxS (H.length+1) fc U.H/\0<=ic/\ic<2 ^ 62/\(∀ i x,fc i=some x->x<65536) /\
     ((x<W/\j9 SF W 0 ix=j9 SF (W-x) x ic/\∀ y,yF fc i y=yF fx i y)\/(x=W/\j9 SF W 0 ix=(W-1,ic)/\fc=yF fx i (W-1)))) W ?_ ?_
   . exact⟨by simp[e0],by simp[e1],by simp[e2],by simp[e9],by simp[e10],by simp,by simp[e27],by simp[e28],by simp[e29],by simp,0,fx,ix,by simp,by simp[e3],by simp,hk,hN,hF,hx0,hx1,hfx,.inl ⟨hp0,rfl,fun _=>rfl⟩⟩
   . rintro n ev ⟨H2,T2⟩ R2 hR2 ⟨e0,e1,e2,e9,e10,e12,e27,e28,e29,e42,x,fc,ic,rfl,e3,e43,hk,hN,hF,hc0,hc1,hfc,hcase⟩;dsimp only at hk hN hF;have hil:i<out.length:=(by omega);have hil':(i:Int)<(out.length:Int):=(by omega);have hial:(i:Int)<(a.length:Int):=(by omega);have hial1:i+1<=a.length:=(by omega);have tail:∀ (x:Nat) (ic:Int) (H3:List Blk) (T3:List (Option Nat)) (ev':Env),ev' 0=.ptr s.S 0->ev' 1=.int .i64 gi->ev' 2=r->ev' 9=.ms H.length 0 a.length 1->ev' 10=.map (H.length+1)->ev' 27=.sl 1 ((yp g).map zP) .none->ev' 28=.int .i64 (yp g).length->ev' 29=.int .i64 ((dn.length:Int)+1)->ev' 3=.int .i64 ic ->
      KpL [] H H3->H3[H.length]?=some (.cells (zF out))->FxS (H.length+1) (yF fx i x) H3->0<=ic->ic<2 ^ 62->x<65536->j9 SF W 0 ix=(x,ic)->R ev' ⟨H3.set H.length (.cells (zF (out.set i x))),T3⟩:=by
      intro x ic H3 T3 ev' a0 a1 a2 a9 a10 a27 a28 a29 a3 bk bN bF b0 b1 bx hp;refine hR _ _ ⟨a0,a1,a2,a9,a10,a27,a28,by rw[a29];simp,rest0,yF fx i x,ic,out.set i x,by rw[hd];simp,a3,?_,bk.setF (qqf _),qqa (qp5.1 bN).1,bF.ne (by omega),by simp[hol],b0,b1,?_⟩
      . rw[<- hch',hp]
      . intro k y hy;unfold yF at hy;split at hy
        . have:x=y:=by simpa using hy
          omega
        . exact hfx k y hy
     rcases hcase with ⟨hxW,hpk,hup⟩|⟨hxW,hpk,hup⟩
     . have hxW':(x:Int)<W:=(by omega);have hwx:=wr (n:=(x:Int)+1) (by omega) (by omega);obtain⟨B,hB,hF'⟩:=hF.set i x;have hF'':=hF';rw[hup]at hF'';have hkB:=hk.setF (b:=H.length+1) (y:=B) (by omega);have hNB:(H2.set (H.length+1) B)[H.length]?=some (.cells (zF out)):=(by rw[qp7 (by omega)];exact hN);have hfu:∀ k y,yF fx i x k=some y->y<65536:=fun k y hy=>by
        unfold yF at hy;split at hy
        . have:x=y:=by simpa using hy
          omega
        . exact hfx k y hy
       have hsu:=qmU h hfu hgi hao (hs.keep hkB (by simp) (by simp) (by simp)) hF''.ok (ha.keep hkB (by simp)) T2;rw[<- hSFx]at hsu;have hpkx:j9 SF (W-x) x ic=if ic<SF x then (x,ic) else if W-x-1=0 then (x,ic-SF x) else j9 SF (W-x-1) (x+1) (ic-SF x):=by
        obtain⟨m,hm⟩:∃ m,W-x=m+1:=⟨W-x-1,by omega⟩;rw[hm];rfl
       have hSl:SF x<=lim:=(by rw[hSFx];exact qcl _ _ _ _ _);simp[-getElem?_pos,e0,e1,e2,e10,e12,e42,e43,hxW',hB];refine qc.acall hsu ?_;rintro v ⟨H3,T3⟩ ⟨rfl,hk3⟩;dsimp only at hk3;have hF3:=hF''.keep hk3 (by simp);have hN3:=hk3.2 _ _ hNB (by simp);have hkk:=hkB.trans hk3;have hget:=hF3.get (qav fx i x) T3;by_cases hlt2:ic<SF x
       . rw[if_pos hlt2]at hpkx;simp[-getElem?_pos,e3,e9,e10,e12,e29,hlt2,hget,hial,hial1,hN3,qY,hol,yD,hwl];exact tail x ic H3 T3 _ (by simp[e0]) (by simp[e1]) (by simp[e2]) (by simp[e9]) (by simp[e10]) (by simp[e27]) (by simp[e28]) (by simp) (by simp[e3]) hkk hN3 hF3 hc0 hc1 (by omega) (by rw[hpk,hpkx])
       . rw[if_neg hlt2]at hpkx;have hws:=wr (n:=ic-(SF x:Int)) (by omega) (by omega);simp[-getElem?_pos,e3,e43,hlt2,hws,hwx];refine hR2 (W-(x+1)) _ _ (by omega) ⟨by simp[e0],by simp[e1],by simp[e2],by simp[e9],by simp[e10],by simp[e12],by simp[e27],by simp[e28],by simp[e29],by simp[e42],x+1,yF fx i x,ic-SF x,rfl,by simp,by simp,hkk,hN3,hF3,by omega,by omega,hfu,?_⟩;by_cases hlast:W-x-1=0
         . rw[if_pos hlast]at hpkx;refine .inr ⟨by omega,?_,?_⟩
           . rw[hpk,hpkx];congr 1;omega
           . congr 1;omega
         . rw[if_neg hlast]at hpkx;exact .inl ⟨by omega,by rw[hpk,hpkx];rfl,fun y=>qkj _ _ _ _⟩
     . have hxW':¬ (x:Int)<W:=(by omega);subst hup;have hget:=hF.get (qav fx i (W-1)) T2;simp[-getElem?_pos,e9,e10,e12,e29,e42,e43,hxW,hget,hial,hial1,hN,qY,hol,yD,hwl];exact tail (W-1) ic H2 T2 _ (by simp[e0]) (by simp[e1]) (by simp[e2]) (by simp[e9]) (by simp[e10]) (by simp[e27]) (by simp[e28]) (by simp) (by simp[e3]) hk hN hF hc0 hc1 (by omega) hpk
 . rintro ev ⟨H1,T1⟩ ⟨e0,e1,e2,e9,e10,e27,e28,e29,rest,fx,ix,out,hre,e3,hch,hk,hN,hF,hol,hx0,hx1,hfx⟩;dsimp only at hk hN hF;have hre':rest=[]:=(by simpa using hre);subst hre';rw[<- hch];simp[-getElem?_pos,e9,e28,e29];exact⟨hk,H.length,by simp[chS,hol],qqf _,hN⟩
def qj2 (x d:Int):Int:=IntKind.u64.wrap (BitVec.ofInt 64 x ^^^ BitVec.ofInt 64 (x.fdiv d)).toNat
def qps (x:Int):Int:=qj2 (IntKind.u64.wrap (qj2 (IntKind.u64.wrap (qj2 x 1073741824*13787848793156543929)) 134217728*10723151780598845931)) 2147483648
def mixS (x k:Int):Int:=qps (IntKind.u64.wrap (x+IntKind.u64.wrap (11400714819323198485*IntKind.u64.wrap (k+1))))
theorem fin370 (x:Int):Pure Tryz.prog GG 247 [.int .u64 x] (.int .u64 (qps x)):=by
 refine Pure.k qe Tryz.func247 rfl (by kernel_rfl) ?_;simp[-getElem?_pos,IntKind.bits];rfl
theorem mix293 (x k:Int):Pure Tryz.prog GG 185 [.int .u64 x,.int .u64 k] (.int .u64 (mixS x k)):=by
 refine Pure.k qe Tryz.func185 rfl (by kernel_rfl) ?_;simp[-getElem?_pos,IntKind.bits];refine qc.call (fin370 _) (by simp) ?_;simp[-getElem?_pos];rfl
abbrev Rng:=Int×Int
def yh (r:Rng):List AV:=[.int .u64 r.1,.int .u64 r.2]
def KU (r:Rng):Int×Rng:=(mixS r.1 r.2,r.1,IntKind.u64.wrap (r.2+1))
theorem qoU (r:Rng):Pure Tryz.prog GG 136 [.agg (yh r)] (.tup [.int .u64 (KU r).1,.agg (yh (KU r).2)]):=by
 refine Pure.k qe Tryz.func136 rfl (by kernel_rfl) ?_;simp[-getElem?_pos,yh];refine qc.call (mix293 _ _) (by simp) ?_;simp[-getElem?_pos];exact⟨rfl,rfl,rfl⟩
theorem qgn {R:Nat}(H:List Blk)(T:List (Option Nat)):qg Tryz.prog GG 95 [.ptr R 0] ⟨H,T⟩ (fun v U'=>v=.fn 135 [] [.ptr H.length 0]/\U'=⟨H++[.cells [.ptr R 0]],T⟩):=by
 refine qg.k qe Tryz.func95 rfl (by kernel_rfl) ?_;simp[-getElem?_pos]
theorem wrapU (n:Int):IntKind.u64.wrap n=n % 18446744073709551616:=by
 simp[IntKind.wrap,IntKind.signed,IntKind.bits]
def VU (cut:Int):Nat->Int->Rng->Int×Rng
 | 0,v,r=>(v,r)
 | k+1,_,r=>if cut=0\/(KU r).1<IntKind.u64.wrap (0-cut) then KU r else VU cut k (KU r).1 (KU r).2
def cutS (n:Int):Int:=(IntKind.u64.wrap (0-n)).tmod n
def wb (n:Int)(r:Rng):Int×Rng:=((VU (cutS n) 64 0 r).1.tmod n,(VU (cutS n) 64 0 r).2)
def qk4:List (Nat×Sch×List Nat):=[(6,.step 0 [10,9] (.step 1 [10,9,8,7,6,5,4,3,2] (.step 2 [10,9,8,7,6,5,4,3] (.step 3 [10,9,8,7,6,5,4] (.step 4 [10,9,8,7,6,5] (.step 5 [10,9,8,7,6] (.step 6 [10,9,8] (.step 7 [10,9] (.step 8 [10,9] (.step 9 [10] (.step 10 [] (.done))))))))))),[])]
def qow:List (Nat×Sch×List Nat):=[(4,.step 0 [4,3,2] (.step 1 [4,3] (.step 2 [4,3] (.step 3 [4] (.step 4 [] (.done))))),[])]
theorem Z7 (cut:Int):∀ (k:Nat) (v:Int) (r:Rng),0<=v->v<18446744073709551616->0<=(VU cut k v r).1/\(VU cut k v r).1<18446744073709551616
 | 0,v,r,h0,h1=>⟨h0,h1⟩
 | k+1,v,r,h0,h1=>by
  have hn:0<=(KU r).1/\(KU r).1<18446744073709551616:=by
   unfold KU mixS qps qj2;dsimp only;rw[wrapU];omega
  unfold VU;split
  . exact hn
  . exact Z7 cut k _ _ hn.1 hn.2
def DrwQ (n:Int)(R:Nat)(r:Rng)(H:List Blk)(T:List (Option Nat))(v:AV)(U':St):Prop:=v=.int .i64 (wb n r).1/\U'=⟨H.set R (.cells (yh (wb n r).2)),T⟩
theorem qpB {n:Int}(h1:1<=n)(h2:n<=4611686018427387904){R C:Nat}{r:Rng}{H:List Blk}(hC:H[C]?=some (.cells [.ptr R 0]))(hR:H[R]?=some (.cells (yh r)))(hne:C≠R)(T:List (Option Nat)) :
 qg Tryz.prog GG 135 [.int .i64 n,.ptr C 0] ⟨H,T⟩ (DrwQ n R r H T):=by
 refine qg.kO ⟨false,qk4,[],[]⟩ qe Tryz.func135 rfl (by kernel_rfl) ?_;have hn0:¬ n=0:=by omega
 have hwn:=wru (n:=n) (by omega) (by omega);obtain⟨cut,hcut⟩:∃ cut,cut=cutS n:=⟨_,rfl⟩;have hcut':(IntKind.u64.wrap (0-n)).tmod n=cut:=by rw[hcut];rfl
 have hrl:=(qp5.1 hR).1;simp[-getElem?_pos,yU,unA,hn0,hwn];obtain⟨RES,hRES⟩:∃ RES,RES=VU cut 64 0 r:=⟨_,rfl⟩;have hcn:(IntKind.u64.wrap (-n)).tmod n=cut:=by simpa using hcut'
 have fin:∀ (v:Int) (rr:Rng),RES=(v,rr)->IntKind.i64.wrap (v.tmod n)=v.tmod n/\DrwQ n R r H T (.int .i64 (v.tmod n)) ⟨H.set R (.cells (yh rr)),T⟩:=fun v rr e=>by
  have hb:wb n r=(v.tmod n,rr):=by unfold wb;rw[<- hcut,<- hRES,e]
  have hv:=Z7 cut 64 0 r (by omega) (by omega);rw[<- hRES,e]at hv;have h3:v.tmod n=v % n:=qsg hv.1;have h4:=Int.emod_nonneg v hn0;have h5:=Int.emod_lt_of_pos v (by omega:0<n);refine⟨by rw[h3];exact wr (by omega) (by omega),?_⟩;unfold DrwQ;rw[hb];exact⟨rfl,rfl⟩
 refine qL.gen (fun m ev U=>ev 1=.ptr C 0/\ev 4=.int .u64 n/\ev 5=.int .u64 cut/\∃ (i:Nat) (v:Int) (rr:Rng),m=64-i/\i<=64/\ev 13=.int .i64 i/\ev 6=.int .u64 v/\VU cut (64-i) v rr=RES/\U=⟨H.set R (.cells (yh rr)),T⟩) 64 ?_ ?_
 . refine⟨by simp,by simp,by simp[hcn],0,0,r,rfl,by omega,by simp,by simp,hRES.symm,?_⟩;congr 1;apply qqW;intro j;by_cases hj:R=j
   . subst hj;rw[qqa hrl,hR]
   . rw[qp7 hj]
 . rintro m ev U R0 hR0 ⟨e1,e4,e5,i,v,rr,rfl,hi,e13,e6,hd,rfl⟩;have bC:∀ y,(H.set R y)[C]?=some (.cells [.ptr R 0]):=fun y=>by rw[qp7 (Ne.symm hne)];exact hC
   have bR:∀ y,(H.set R y)[R]?=some y:=fun y=>qqa hrl
   by_cases h64:i<64
   . have h64':(i:Int)<64:=(by omega);obtain⟨k,hk⟩:∃ k,64-i=k+1:=⟨63-i,by omega⟩;have hwi:=wr (n:=(i:Int)+1) (by omega) (by omega);rw[hk]at hd hR0;unfold VU at hd;obtain⟨x,r',hx⟩:∃ x r',KU rr=(x,r'):=⟨_,_,rfl⟩;have hnx:=qoU rr;rw[hx]at hd hnx;dsimp only at hd hnx;simp only[yh]at hnx bR;simp[-getElem?_pos,e1,e4,e5,e6,e13,h64'];rw[qG rfl];simp[-getElem?_pos,qM,e1,e4,e5,e6,e13,bC,bR,yh];refine qc.call hnx (by simp) ?_;by_cases hc:cut=0
     . rw[if_pos (.inl hc)]at hd;obtain⟨hw,hq⟩:=fin x r' hd.symm;simp[-getElem?_pos,qM,e1,e4,e5,e6,e13,bC,bR,yh,hrl,hc,unA,hn0,hw,yU];exact hq
     by_cases hlt:x<IntKind.u64.wrap (0-cut)
     . rw[if_pos (.inr hlt)]at hd;obtain⟨hw,hq⟩:=fin x r' hd.symm;have hlt':x<IntKind.u64.wrap (-cut):=(by simpa using hlt);simp[-getElem?_pos,qM,e1,e4,e5,e6,e13,bC,bR,yh,hrl,hc,unA,hn0,hw,yU,hlt,hlt'];exact hq
     . rw[if_neg (fun h=>h.elim hc hlt)]at hd;have hlt':¬ x<IntKind.u64.wrap (-cut):=(by simpa using hlt);simp[-getElem?_pos,qM,e1,e4,e5,e6,e13,bC,bR,yh,hrl,hc,unA,hn0,yU,hlt,hlt',hwi];refine hR0 k _ _ (by omega) ⟨by simp[e1],by simp[e4],by simp[e5],i+1,x,r',by omega,by omega,by simp,by simp,?_,rfl⟩;rw[<- hd];congr 1;omega
   . have h64':¬ (i:Int)<64:=(by omega);have hi0:64-i=0:=(by omega);rw[hi0]at hd;obtain⟨hw,hq⟩:=fin v rr hd.symm;simp[-getElem?_pos,e1,e4,e5,e6,e13,h64',yU,hn0,hw];exact hq
def jI (n:Int)(r:Rng):Int×Rng×Int:=if n<1\/4611686018427387904<n then (0,(0,0),1) else ((wb n r).1,(wb n r).2,0)
def tupB (q:Int×Rng×Int):AV:=.tup [.int .i64 q.1,.agg (yh q.2.1),.int .i64 q.2.2]
theorem qp3 (n:Int)(r:Rng):Pure Tryz.prog GG 63 [.agg (yh r),.int .i64 n] (tupB (jI n r)):=by
 refine Pure.kO ⟨false,qow,[],[]⟩ true qe Tryz.func63 rfl (by kernel_rfl) ?_;by_cases h1:n<1
 . have e:jI n r=(0,(0,0),1):=if_pos (.inl h1);rw[e];simp[-getElem?_pos,h1,tupB,yh];rw[qt (by rfl)];exact⟨rfl,Leq.refl _⟩
 by_cases h2:4611686018427387904<n
 . have e:jI n r=(0,(0,0),1):=if_pos (.inr h2);rw[e];simp[-getElem?_pos,h1,h2,tupB,yh];rw[qt (by rfl)];exact⟨rfl,Leq.refl _⟩
 have e:jI n r=((wb n r).1,(wb n r).2,0):=if_neg (fun h=>h.elim h1 h2);rw[e];simp[-getElem?_pos,h1,h2,yh];refine qc.acall (qgn _ _) ?_;rintro v U ⟨rfl,rfl⟩;simp[-getElem?_pos];refine qc.acall (qpB (r:=r) (R:=0) (C:=2) (by omega) (by omega) (by simp) (by simp[yh]) (by simp) _) ?_;rintro v U ⟨rfl,rfl⟩;simp[-getElem?_pos,yh];rw[qG rfl];simp[-getElem?_pos,qM,tupB,yh];rw[qt (by rfl)];exact⟨rfl,Leq.refl _⟩
section
section
variable {H:Type}{enc:TypeId×Value->H}{w:World}{base:Nat}{held:Bool}
theorem Zf {fs:Array Field}{t n:Nat}{cs:List Value}{x:DataW H×List MemPlace}(ht:Tryz.prog.underlying t=some (.struct fs))(h:DataW.trod enc Tryz.prog w base (fun _=>true) held n t cs=some x) :
 ∃ m,n=m+1/\cs.length=Tryz.prog.cellsOf t/\∀ (i:Nat) (f:Field),fs[i]?=some f->∃ y,DataW.trod enc Tryz.prog w base (fun _=>true) held m f.type ((cs.drop f.offset).take (Tryz.prog.cellsOf f.type))=some y:=by
 obtain⟨xs,m,rfl,rfl,hl,hlen,hf⟩:=DataW.trod_struct ht h;refine⟨m,rfl,hl,fun i f hi=>?_⟩;have hlt:i<fs.size:=(qqS.1 hi).1;exact⟨xs[i]'(by omega),by rw[hf i f hi,qp8]⟩
theorem qhA {fs:Array Field}{t n:Nat}{cs:List Value}{x:DataW H×List MemPlace}(ht:Tryz.prog.underlying t=some (.struct fs))(h:DataW.trod enc Tryz.prog w base (fun _=>true) held n t cs=some x) :
 ∃ m,n=m+1/\cs.length=Tryz.prog.cellsOf t/\(∀ (i:Nat) (f:Field),fs[i]?=some f->∃ y,DataW.trod enc Tryz.prog w base (fun _=>true) held m f.type ((cs.drop f.offset).take (Tryz.prog.cellsOf f.type))=some y) /\
  ∀ (i:Nat) (f:Field),fs[i]?=some f->∀ y,DataW.trod enc Tryz.prog w base (fun _=>true) held m f.type ((cs.drop f.offset).take (Tryz.prog.cellsOf f.type))=some y->∃ xs:List (DataW H×List MemPlace),x.1=.agg (xs.map (·.1))/\xs.length=fs.size/\xs[i]?=some y:=by
 obtain⟨xs,m,rfl,rfl,hl,hlen,hf⟩:=DataW.trod_struct ht h;refine⟨m,rfl,hl,fun i f hi=>?_,fun i f hi y hy=>⟨xs,rfl,hlen,?_⟩⟩
 . have hlt:i<fs.size:=(qqS.1 hi).1;exact⟨xs[i]'(by omega),by rw[hf i f hi,qp8]⟩
 . rw[<- hf i f hi,hy]
theorem k3:Tryz.prog.cellsOf 3=1:=by kernel_rfl
theorem k4:Tryz.prog.cellsOf 4=1:=by kernel_rfl
theorem k9:Tryz.prog.cellsOf 9=1:=by kernel_rfl
theorem k37:Tryz.prog.cellsOf 44=1:=by kernel_rfl
theorem k22:Tryz.prog.cellsOf 22=1:=by kernel_rfl
theorem k23:Tryz.prog.cellsOf 23=1:=by kernel_rfl
theorem k24:Tryz.prog.cellsOf 24=1:=by kernel_rfl
theorem k25:Tryz.prog.cellsOf 25=1:=by kernel_rfl
theorem k27:Tryz.prog.cellsOf 27=5:=by kernel_rfl
theorem k57:Tryz.prog.cellsOf 52=4:=by kernel_rfl
theorem k50:Tryz.prog.cellsOf 37=4:=by kernel_rfl
theorem k75:Tryz.prog.cellsOf 58=1:=by kernel_rfl
theorem k77:Tryz.prog.cellsOf 60=2:=by kernel_rfl
theorem k145:Tryz.prog.cellsOf 90=4:=by kernel_rfl
theorem qcn {s:ByteArray}:qf (KMw w) (.str s.data.toList) (.string s):=by
 obtain⟨d⟩:=s;unfold qf;show Value.string ⟨d⟩=Value.string ⟨d.toList.toArray⟩;rw[qrY]
theorem Ze {n:Nat}{c:Value}{y:DataW H×List MemPlace}(h:DataW.trod enc Tryz.prog w base (fun _=>true) held n 3 [c]=some y):∃ i:Int,c=.int .i64 i:=by
 obtain⟨i,e,_⟩:=DataW.trod_int Tryz.underlying3 h;exact⟨i,(List.cons.inj e).1⟩
theorem qos {n:Nat}{c:Value}{y:DataW H×List MemPlace}(h:DataW.trod enc Tryz.prog w base (fun _=>true) held n 4 [c]=some y):∃ i:Bool,c=.bool i:=by
 obtain⟨i,e,_⟩:=DataW.trod_bool Tryz.underlying4 h;exact⟨i,(List.cons.inj e).1⟩
theorem qm0 {n:Nat}{c:Value}{y:DataW H×List MemPlace}(h:DataW.trod enc Tryz.prog w base (fun _=>true) held n 9 [c]=some y):∃ s:ByteArray,c=.string s/\Fits s.data.toList:=by
 obtain⟨s,e,_,hs⟩:=DataW.trod_string Tryz.underlying9 h;refine⟨s,(List.cons.inj e).1,?_⟩;have:s.data.toList.length=s.size:=qq8;rw[Fits,this];simp only[maxLen]at hs;omega
theorem rdVar {n:Nat}{cs:List Value}{x:DataW H×List MemPlace}(h:DataW.trod enc Tryz.prog w base (fun _=>true) held n 37 cs=some x):∃ v:Var,qh (KMw w) (qo v) cs/\Fits v.name:=by
 obtain⟨m,rfl,hl,hf⟩:=Zf Tryz.underlying37 h;rw[k50]at hl
 match cs,hl with
 | [a,b,c,d],_=>
  obtain⟨y0,h0⟩:=hf 0 _ rfl;obtain⟨y1,h1⟩:=hf 1 _ rfl;obtain⟨y2,h2⟩:=hf 2 _ rfl;obtain⟨y3,h3⟩:=hf 3 _ rfl;have h0:DataW.trod enc Tryz.prog w base (fun _=>true) held m 9 (List.take (Tryz.prog.cellsOf 9) (List.drop 0 [a,b,c,d]))=some y0:=h0;rw[k9]at h0;have h1:DataW.trod enc Tryz.prog w base (fun _=>true) held m 3 (List.take (Tryz.prog.cellsOf 3) (List.drop 1 [a,b,c,d]))=some y1:=h1;rw[k3]at h1;have h2:DataW.trod enc Tryz.prog w base (fun _=>true) held m 3 (List.take (Tryz.prog.cellsOf 3) (List.drop 2 [a,b,c,d]))=some y2:=h2;rw[k3]at h2;have h3:DataW.trod enc Tryz.prog w base (fun _=>true) held m 3 (List.take (Tryz.prog.cellsOf 3) (List.drop 3 [a,b,c,d]))=some y3:=h3;rw[k3]at h3;obtain⟨s,rfl,hs⟩:=qm0 (c:=a) h0;obtain⟨i1,rfl⟩:=Ze (c:=b) h1;obtain⟨i2,rfl⟩:=Ze (c:=c) h2;obtain⟨i3,rfl⟩:=Ze (c:=d) h3;refine⟨⟨s.data.toList,i1,i2,i3⟩,?_,hs⟩;simp only[qo,qh];exact⟨_,_,rfl,qcn,_,_,rfl,by simp[qf],_,_,rfl,by simp[qf],_,_,rfl,by simp[qf],rfl⟩
theorem qkH {n:Nat}{cs:List Value}{x:DataW H×List MemPlace}(h:DataW.trod enc Tryz.prog w base (fun _=>true) held n 90 cs=some x):∃ v:Weight,qh (KMw w) (qE v) cs/\True:=by
 obtain⟨m,rfl,hl,hf⟩:=Zf Tryz.underlying90 h;rw[k145]at hl
 match cs,hl with
 | [a,b,c,d],_=>
  obtain⟨y0,h0⟩:=hf 0 _ rfl;obtain⟨y1,h1⟩:=hf 1 _ rfl;obtain⟨y2,h2⟩:=hf 2 _ rfl;obtain⟨y3,h3⟩:=hf 3 _ rfl;have h0:DataW.trod enc Tryz.prog w base (fun _=>true) held m 3 (List.take (Tryz.prog.cellsOf 3) (List.drop 0 [a,b,c,d]))=some y0:=h0;rw[k3]at h0;have h1:DataW.trod enc Tryz.prog w base (fun _=>true) held m 3 (List.take (Tryz.prog.cellsOf 3) (List.drop 1 [a,b,c,d]))=some y1:=h1;rw[k3]at h1;have h2:DataW.trod enc Tryz.prog w base (fun _=>true) held m 3 (List.take (Tryz.prog.cellsOf 3) (List.drop 2 [a,b,c,d]))=some y2:=h2;rw[k3]at h2;have h3:DataW.trod enc Tryz.prog w base (fun _=>true) held m 4 (List.take (Tryz.prog.cellsOf 4) (List.drop 3 [a,b,c,d]))=some y3:=h3;rw[k4]at h3;obtain⟨i0,rfl⟩:=Ze (c:=a) h0;obtain⟨i1,rfl⟩:=Ze (c:=b) h1;obtain⟨i2,rfl⟩:=Ze (c:=c) h2;obtain⟨i3,rfl⟩:=qos (c:=d) h3;refine⟨⟨i0,i1,i2,i3⟩,?_,trivial⟩;simp[qh,qf]
theorem rdDist {n:Nat}{cs:List Value}{x:DataW H×List MemPlace}(h:DataW.trod enc Tryz.prog w base (fun _=>true) held n 60 cs=some x):∃ v:Dist,qh (KMw w) (zM v) cs/\Fits v.weights:=by
 obtain⟨m,rfl,hl,hf⟩:=Zf Tryz.underlying60 h;rw[k77]at hl
 match cs,hl with
 | [a,b],_=>
  obtain⟨y0,h0⟩:=hf 0 _ rfl;obtain⟨y1,h1⟩:=hf 1 _ rfl;have h0:DataW.trod enc Tryz.prog w base (fun _=>true) held m 3 (List.take (Tryz.prog.cellsOf 3) (List.drop 0 [a,b]))=some y0:=h0;rw[k3]at h0;have h1:DataW.trod enc Tryz.prog w base (fun _=>true) held m 58 (List.take (Tryz.prog.cellsOf 58) (List.drop 1 [a,b]))=some y1:=h1;rw[k75]at h1;obtain⟨i0,rfl⟩:=Ze (c:=a) h0;have h1':DataW.trod enc Tryz.prog w base (fun _=>true) held m 58 [b]=some y1:=h1
  cases m with
  | zero=>simp[DataW.trod]at h1'
  | succ m=>
   obtain⟨l,v,e,hv,hfl,_⟩:=Qh (en:=qE) (good:=fun _=>True) Tryz.underlying58 k145 (by omega) (fun y=>by simp[AV.atom]) (fun cs x h=>qkH h) h1';cases e;refine⟨⟨i0,l⟩,?_,hfl⟩;simp only[zM,qh,qf];exact⟨_,_,rfl,rfl,_,[],rfl,by simpa only[qf] using hv,rfl⟩
theorem rdE:∀ (N n:Nat),n<=N->∀ {cs:List Value} {x:DataW H×List MemPlace},DataW.trod enc Tryz.prog w base (fun _=>true) held n 52 cs=some x->∃ e:Ex,qh (KMw w) (qs e) cs/\Wen e:=by
 intro N
 induction N with
 | zero=>
  intro n hn cs x h;have:n=0:=by omega
  subst this;simp[DataW.trod]at h
 | succ N ih=>
  intro n hn cs x h;obtain⟨m,rfl,hl,hf⟩:=Zf Tryz.underlying52 h;rw[k57]at hl
  match cs,hl with
  | [a,b,c,d],_=>
   obtain⟨y0,h0⟩:=hf 0 _ rfl;obtain⟨y1,h1⟩:=hf 1 _ rfl;obtain⟨y2,h2⟩:=hf 2 _ rfl;obtain⟨y3,h3⟩:=hf 3 _ rfl;have h0:DataW.trod enc Tryz.prog w base (fun _=>true) held m 3 (List.take (Tryz.prog.cellsOf 3) (List.drop 0 [a,b,c,d]))=some y0:=h0;rw[k3]at h0;have h1:DataW.trod enc Tryz.prog w base (fun _=>true) held m 3 (List.take (Tryz.prog.cellsOf 3) (List.drop 1 [a,b,c,d]))=some y1:=h1;rw[k3]at h1;have h2:DataW.trod enc Tryz.prog w base (fun _=>true) held m 9 (List.take (Tryz.prog.cellsOf 9) (List.drop 2 [a,b,c,d]))=some y2:=h2;rw[k9]at h2;have h3:DataW.trod enc Tryz.prog w base (fun _=>true) held m 23 (List.take (Tryz.prog.cellsOf 23) (List.drop 3 [a,b,c,d]))=some y3:=h3;rw[k23]at h3;obtain⟨i0,rfl⟩:=Ze (c:=a) h0;obtain⟨i1,rfl⟩:=Ze (c:=b) h1;obtain⟨s,rfl,hs⟩:=qm0 (c:=c) h2;have h3':DataW.trod enc Tryz.prog w base (fun _=>true) held m 23 [d]=some y3:=h3
   cases m with
   | zero=>simp[DataW.trod]at h3'
   | succ m=>
    obtain⟨l,v,e,hv,hfl,hg⟩:=Qh (en:=qs) (good:=Wen) Tryz.underlying23 k57 (by omega) (fun y=>by rw[qd];simp[AV.atom]) (fun cs x h=>ih m (by omega) h) h3';cases e;refine⟨.mk i0 i1 s.data.toList l,?_,?_⟩
    . rw[qd];simp only[qh,Ex.op_mk,Ex.n_mk,Ex.name_mk,Ex.args_mk];exact⟨_,_,rfl,by simp[qf],_,_,rfl,by simp[qf],_,_,rfl,qcn,_,[],rfl,hv,rfl⟩
    . intro y hy;rw[jc]at hy;rcases qqv.1 hy with rfl|hy
      . exact⟨hfl,hs⟩
      . obtain⟨a,ha,hya⟩:=wR.1 hy;exact hg a ha y hya
theorem b3:Tryz.prog.bytesOf 3=8:=by kernel_rfl
theorem w_all {P:Program}{e:TypeId}:∀ {E:List (DataW H)} {d:DataW H},d∈E->∀ k∈d.weights P e,k∈DataW.weightsAll P e E
 | [],_,h,_,_=>nomatch h
 | a::r,d,h,k,hk=>by
  simp only[DataW.weightsAll,qqo];rcases qqv.1 h with rfl|h
  . exact .inl hk
  . exact .inr (w_all h k hk)
theorem qkI {n:Nat}{cs:List Value}{x:DataW H×List MemPlace}(h:DataW.trod enc Tryz.prog w base (fun _=>true) held (n+1) 25 cs=some x)(hw:∀ k∈x.1.weights Tryz.prog 25,k<=reachBytes) :
 ∃ (l:List (List Int)) (v:Value),cs=[v]/\qf (KMw w) (.sl 1 (l.map zc) .none) v/\Fits l/\∀ y∈l,Fits y/\y.length<17592186044416:=by
 obtain⟨l,v,h1,h2,h3,h4,_⟩:=YI (en:=zc) (good:=fun g=>Fits g/\g.length<17592186044416) (X:=fun d=>∀ k∈d.weights Tryz.prog 44,k<=reachBytes) Tryz.underlying25 k37 (by omega) (fun y=>by simp[AV.atom]) (fun cs x h hx=>by
  cases n with
  | zero=>simp[DataW.trod]at h
  | succ m=>
   obtain⟨l,v,rfl,hv,hfl,_,hN⟩:=YI (en:=qy) (good:=fun _=>True) (X:=fun _=>True) Tryz.underlying44 k3 (by omega) (fun y=>by simp[AV.atom]) (fun cs x h _=>by
    obtain⟨i,e,_⟩:=DataW.trod_int Tryz.underlying3 h;exact⟨i,by rw[e];simp[qh,qf],trivial⟩) h (fun _ _ _ _ _=>trivial)
   refine⟨l,?_,hfl,?_⟩
   . simp only[zc,qh];exact⟨v,[],rfl,hv,rfl⟩
   . have:=hN 17592186044415 fun E S e=>by
      have:=hx ((E.length+S.length)*Tryz.prog.bytesOf 3) (by rw[e];simp only[DataW.weights,Tryz.underlying44];exact qrR);rw[b3]at this;simp only[reachBytes]at this;omega
     omega) h (fun E S e d hd k hk=>hw k (by
      rw[e];simp only[DataW.weights,Tryz.underlying25];exact qrn _ (qqH _ (w_all hd k hk))))
 exact⟨l,v,h1,h2,h3,h4⟩
theorem rdP {n:Nat}{cs:List Value}{x:DataW H×List MemPlace}(h:DataW.trod enc Tryz.prog w base (fun _=>true) held n 27 cs=some x)(hw:∀ k∈x.1.weights Tryz.prog 27,k<=reachBytes):∃ p:Problem,qh (KMw w) (qJ p) cs/\VM p:=by
 have hx:∀ y4,(∃ xs:List (DataW H×List MemPlace),x.1=.agg (xs.map (·.1))/\xs.length=5/\xs[4]?=some y4)->∀ k∈y4.1.weights Tryz.prog 25,k<=reachBytes:=by
  rintro y4 ⟨xs,e,hl,h4⟩ k hk;refine hw k ?_;rw[e]
  match xs,hl with
  | [a,b,c,d,e],_=>
   simp at h4;subst h4;simp only[DataW.weights,Tryz.underlying27,qqk,qqF,DataW.weightsEach,qqo];exact .inr (.inr (.inr (.inr (.inl hk))))
 obtain⟨m,rfl,hl,hf,hy⟩:=qhA Tryz.underlying27 h;rw[k27]at hl
 match cs,hl with
 | [a,b,c,d,e],_=>
  obtain⟨y0,h0⟩:=hf 0 _ rfl;obtain⟨y1,h1⟩:=hf 1 _ rfl;obtain⟨y2,h2⟩:=hf 2 _ rfl;obtain⟨y3,h3⟩:=hf 3 _ rfl;obtain⟨y4,h4⟩:=hf 4 _ rfl;have h4w:=hx y4 (hy 4 _ rfl y4 h4);have h0:DataW.trod enc Tryz.prog w base (fun _=>true) held m 22 (List.take (Tryz.prog.cellsOf 22) (List.drop 0 [a,b,c,d,e]))=some y0:=h0;rw[k22]at h0;have h1:DataW.trod enc Tryz.prog w base (fun _=>true) held m 23 (List.take (Tryz.prog.cellsOf 23) (List.drop 1 [a,b,c,d,e]))=some y1:=h1;rw[k23]at h1;have h2:DataW.trod enc Tryz.prog w base (fun _=>true) held m 23 (List.take (Tryz.prog.cellsOf 23) (List.drop 2 [a,b,c,d,e]))=some y2:=h2;rw[k23]at h2;have h3:DataW.trod enc Tryz.prog w base (fun _=>true) held m 24 (List.take (Tryz.prog.cellsOf 24) (List.drop 3 [a,b,c,d,e]))=some y3:=h3;rw[k24]at h3;have h4:DataW.trod enc Tryz.prog w base (fun _=>true) held m 25 (List.take (Tryz.prog.cellsOf 25) (List.drop 4 [a,b,c,d,e]))=some y4:=h4;rw[k25]at h4;have h0':DataW.trod enc Tryz.prog w base (fun _=>true) held m 22 [a]=some y0:=h0;have h1':DataW.trod enc Tryz.prog w base (fun _=>true) held m 23 [b]=some y1:=h1;have h2':DataW.trod enc Tryz.prog w base (fun _=>true) held m 23 [c]=some y2:=h2;have h3':DataW.trod enc Tryz.prog w base (fun _=>true) held m 24 [d]=some y3:=h3;have h4':DataW.trod enc Tryz.prog w base (fun _=>true) held m 25 [e]=some y4:=h4
  cases m with
  | zero=>simp[DataW.trod]at h0'
  | succ m=>
   obtain⟨l0,v0,e0,r0,f0,g0⟩:=Qh (en:=qo) (good:=fun v=>Fits v.name) Tryz.underlying22 k50 (by omega) (fun y=>by simp[AV.atom]) (fun cs x h=>rdVar h) h0';obtain⟨l1,v1,e1,r1,f1,g1⟩:=Qh (en:=qs) (good:=Wen) Tryz.underlying23 k57 (by omega) (fun y=>by rw[qd];simp[AV.atom]) (fun cs x h=>rdE m m (qqf _) h) h1';obtain⟨l2,v2,e2,r2,f2,g2⟩:=Qh (en:=qs) (good:=Wen) Tryz.underlying23 k57 (by omega) (fun y=>by rw[qd];simp[AV.atom]) (fun cs x h=>rdE m m (qqf _) h) h2';obtain⟨l3,v3,e3,r3,f3,g3⟩:=Qh (en:=zM) (good:=fun d=>Fits d.weights) Tryz.underlying24 k77 (by omega) (fun y=>by simp[AV.atom]) (fun cs x h=>rdDist h) h3';obtain⟨l4,v4,e4,r4,f4,g4⟩:=qkI h4' h4w;cases e0;cases e1;cases e2;cases e3;cases e4;refine⟨⟨l0,l1,l2,l3,l4⟩,?_,⟨⟨g0,fun e he=>?_,f3,g3,f4,fun g hg=>(g4 g hg).1⟩,f0,f1,f2,fun g hg=>(g4 g hg).2⟩⟩
   . simp only[qJ,qh];exact⟨_,_,rfl,r0,_,_,rfl,r1,_,_,rfl,r2,_,_,rfl,r3,_,_,rfl,r4,rfl⟩
   . rcases qqo.1 he with he|he
     . exact g1 e he
     . exact g2 e he
theorem k42:Tryz.prog.cellsOf 30=2:=by kernel_rfl
theorem k40:Tryz.prog.cellsOf 28=1:=by kernel_rfl
theorem qmZ {n:Nat}{c:Value}{y:DataW H×List MemPlace}(h:DataW.trod enc Tryz.prog w base (fun _=>true) held n 28 [c]=some y):∃ i:Int,c=.int .u64 i:=by
 obtain⟨i,e,_⟩:=DataW.trod_int Tryz.underlying28 h;exact⟨i,(List.cons.inj e).1⟩
theorem rdR {n:Nat}{cs:List Value}{x:DataW H×List MemPlace}(h:DataW.trod enc Tryz.prog w base (fun _=>true) held n 30 cs=some x):∃ r:Rng,qh (KMw w) (yh r) cs/\True:=by
 obtain⟨m,rfl,hl,hf⟩:=Zf Tryz.underlying30 h;rw[k42]at hl
 match cs,hl with
 | [a,b],_=>
  obtain⟨y0,h0⟩:=hf 0 _ rfl;obtain⟨y1,h1⟩:=hf 1 _ rfl;have h0:DataW.trod enc Tryz.prog w base (fun _=>true) held m 28 (List.take (Tryz.prog.cellsOf 28) (List.drop 0 [a,b]))=some y0:=h0;have h1:DataW.trod enc Tryz.prog w base (fun _=>true) held m 28 (List.take (Tryz.prog.cellsOf 28) (List.drop 1 [a,b]))=some y1:=h1;rw[k40]at h0 h1;obtain⟨i,rfl⟩:=qmZ (c:=a) h0;obtain⟨j,rfl⟩:=qmZ (c:=b) h1;refine⟨(i,j),?_,trivial⟩;simp only[yh,qh];exact⟨_,_,rfl,rfl,_,_,rfl,rfl,rfl⟩
end
end
theorem kU:∀ {vs:List Var} {a:List Int},okA vs a->∀ {i:Nat} {v:Var},vs[i]?=some v->∃ x,a[i]?=some x/\(if v.mode=0 then x=v.value else 0<=x/\x<(zi v:Nat))
 | [],_,_,i,v,hv=>by simp at hv
 | w::vs,[],h,i,v,hv=>h.elim
 | w::vs,y::a,h,0,v,hv=>by
  simp at hv;subst hv;exact⟨y,rfl,h.1⟩
 | w::vs,y::a,h,i+1,v,hv=>by
  obtain⟨x,h1,h2⟩:=kU (vs:=vs) (a:=a) h.2 (i:=i) (v:=v) (by simpa using hv);exact⟨x,by simpa using h1,h2⟩
def eqP (p:Problem)(q:Nat×Nat):Ex:=eqE (JL p q.1) (q.2:Int)
theorem eq_sat {p:Problem}(hv:qi p=0){a:List Int}(ha:a∈QA p.vars){i:Nat}{v:Var}(hi:p.vars[i]?=some v){n:Nat}(hn:n<=65535) :
 decide (yr (kE p.vars a) (eqP p (i,n))≠0)=decide (a[i]?=some (n:Int)):=by
 have hok:=ky.1 ha;obtain⟨x,hx,hxr⟩:=kU hok hi;have hm:=qp6 hi;have hve:=qU (zE hv v hm);have hvv:=W5 (zE hv v hm);have hx2:0<=x/\x<=65535:=by
  split at hxr
  . omega
  . have h3:2 ^ v.width.toNat<=2 ^ 8:=qqu (by omega) (by omega);unfold zi at hxr;omega
 have hf:=vV (j7 hv) hi hx;rw[Q2 hx2.1 hx2.2]at hf;have hen:kE p.vars a=(p.vars.zip a).map fun q=>⟨q.1.name,q.2⟩:=by unfold kE;rw[if_pos hok.len]
 have hnm:JL p i=v.name:=by simp[JL,hi]
 have ho:=qnw hve.1 (n:=(n:Int)) (by omega) (by omega);have hex:zg p.vars (eqE v.name (n:Int))=0:=ho.valid (by omega) (by omega) (by unfold vC;rw[qqr];exact⟨v,hm,by simp⟩);have hval:zk (eqE v.name (n:Int))=0:=by
  by_cases h0:zk (eqE v.name (n:Int))=0
  . exact h0
  . unfold zg at hex;rw[if_pos h0]at hex;exact absurd hex h0
 have hkn:yt (kE p.vars a) (eqE v.name (n:Int))=true:=by
  unfold yt;rw[qcw,hen];simp[qjZ,eqE,Qt,jr,Ex.op,Ex.name,hf]
 have hev:yr (kE p.vars a) (eqE v.name (n:Int))=b2i (decide (x=(n:Int))):=by
  unfold yr;rw[if_pos ⟨hval,hkn⟩,yk,hen];simp[eqE,Qt,jr,Ex.op,Ex.name,Ex.args,Ex.n,Qw,yk,hf,opW,yL,b2i]
 show decide (yr _ (eqE (JL p i) (n:Int))≠0)=_;rw[hnm,hev,hx];by_cases hxn:x=(n:Int)<;>simp[b2i,hxn]
noncomputable def okC (p:Problem)(R:List Ex)(c:List (Nat×Nat)):Bool:=(QA p.vars).any fun a=>Qe p.vars R a&&c.all fun q=>decide (a[q.1]?=some (q.2:Int))
noncomputable def qcm (p:Problem)(R:List Ex)(fx:Nat->Option Nat):List Nat->List (Nat×Nat)->Nat
 | [],c=>if okC p R c=true then 1 else 0
 | i::r,c=>if okC p R c=true then (wj (jx p i) (fx i)).foldl (fun s v=>sat (s+sat (wtP p i v*qcm p R fx r (c++[(i,v)])))) 0 else 0
def qmP (p:Problem)(c:List (Nat×Nat)):Prop:=∀ q∈c,(∃ v,p.vars[q.1]?=some v/\v.mode≠0)/\q.2<2 ^ jx p q.1
theorem qnY {p:Problem}(hv:qi p=0){i:Nat}{v:Var}(hi:p.vars[i]?=some v):jx p i=v.width.toNat/\v.width.toNat<=8:=by
 have hve:=qU (zE hv v (qp6 hi));exact⟨by unfold jx zK;rw[hi],by omega⟩
theorem qmP.lt {p:Problem}(hv:qi p=0){c:List (Nat×Nat)}(h:qmP p c){q:Nat×Nat}(hq:q∈c):q.2<=65535:=by
 obtain⟨⟨v,hi,_⟩,hlt⟩:=h q hq;obtain⟨h1,h2⟩:=qnY hv hi;rw[h1]at hlt;have h3:2 ^ v.width.toNat<=2 ^ 8:=qqu (by omega) (by omega);omega
theorem qdL {p:Problem}(hv:qi p=0)(R:List Ex){c:List (Nat×Nat)}(hc:qmP p c):jJ p.vars (R++c.map (eqP p))=okC p R c:=by
 unfold jJ okC;apply qq1.2;simp only[qqr];have key:∀ a∈QA p.vars,Qe p.vars (R++c.map (eqP p)) a=(Qe p.vars R a&&c.all fun q=>decide (a[q.1]?=some (q.2:Int))):=fun a ha=>by
  unfold Qe;rw[qrD,qtn];congr 1;apply qq1.2;simp only[qqi];refine forall_congr' fun q=>forall_congr' fun hq=>?_
  obtain⟨⟨v,hi,_⟩,_⟩:=hc q hq;have:=eq_sat hv ha hi (hc.lt hv hq);simp only[Function.comp];rw[<- this]
 constructor
 . rintro⟨a,ha,h⟩;exact⟨a,ha,by rw[<- key a ha];exact h⟩
 . rintro⟨a,ha,h⟩;exact⟨a,ha,by rw[key a ha];exact h⟩
def qj1 (p:Problem)(fx:Nat->Option Nat):Prop:=∀ i x,fx i=some x->x<2 ^ jx p i
theorem qgW {p:Problem}{fx:Nat->Option Nat}(hf:qj1 p fx){i v:Nat}(h:v∈wj (jx p i) (fx i)):v<2 ^ jx p i:=by
 unfold wj at h;split at h
 . exact qqT.1 h
 . rename_i x hx;have:=qqy.1 h;subst this;exact hf i _ hx
theorem kq {α:Type}{f g:Nat->α->Nat}:∀ {l:List α} {s:Nat},(∀ s,∀ v∈l,f s v=g s v)->l.foldl f s=l.foldl g s
 | [],s,h=>rfl
 | a::r,s,h=>by
  rw[qqV,qqV,h s a (by simp)];exact kq fun s v hv=>h s v (by simp[hv])
theorem qhf {p:Problem}(hv:qi p=0)(R:List Ex){fx:Nat->Option Nat}(hf:qj1 p fx):∀ (g:List Nat) (c:List (Nat×Nat)),(∀ i∈g,∃ v,p.vars[i]?=some v/\v.mode≠0)->qmP p c ->
 qck p fx g (R++c.map (eqP p))=qcm p R fx g c:=by
 intro g
 induction g with
 | nil=>intro c _ hc;unfold qck qcm;rw[qdL hv R hc]
 | cons i r ih=>
  intro c hg hc;unfold qck qcm;rw[qdL hv R hc];split
  . refine kq fun s v hvm=>?_
    have hc':qmP p (c++[(i,v)]):=fun q hq=>by
     rcases qqo.1 hq with hq|hq
     . exact hc q hq
     . have:=qqy.1 hq;subst this;exact⟨hg i (by simp),qgW hf hvm⟩
    have:=ih (c++[(i,v)]) (fun j hj=>hg j (by simp[hj])) hc';rw[qqY,<- qqC]at this;rw[<- this];rfl
  . rfl
def LW (p:Problem)(l:List Nat):Nat:=(l.map (jx p)).sum
theorem qjU (p:Problem)(l m:List Nat):LW p (l++m)=LW p l+LW p m:=by simp[LW]
theorem V9 {p:Problem}(hv:qi p=0):∀ l:List Nat,yN p.vars (l.map fun n:Nat=>(n:Int))=(LW p l:Int)
 | []=>rfl
 | i::r=>by
  have ih:=V9 hv r;have h0:=ZK (Qc hv) i;have e1:yN p.vars ((i::r).map fun n:Nat=>(n:Int))=zK p.vars i+yN p.vars (r.map fun n:Nat=>(n:Int)):=by simp[yN]
  have e2:LW p (i::r)=jx p i+LW p r:=by simp[LW]
  rw[e1,e2,ih];unfold jx;omega
theorem qid {p:Problem}(hv:qi p=0){k i:Nat}(hk:(NG p).flatten[k]?=some i):Y0 (qT p) i=LW p ((NG p).flatten.take k):=by
 have hk':p.groups.flatten[k]?=some (i:Int):=by rw[QZ hv,qqp,hk];rfl
 have h1:=Y3 hv hk';rw[QZ hv,<- List.map_take,V9 hv]at h1;unfold Y0;rw[qqh,h1];simp
theorem qp2 {p:Problem}(hv:qi p=0):LW p (NG p).flatten<=20:=by
 have:=Kj hv;rw[QZ hv,V9 hv]at this;omega
theorem qi5 {d:List Nd}(h:DagOk d){node l w v:Nat}(hn:node<d.length)(hl:l<=lvD d node)(hlw:l+w<=20):∀ k,k<=w ->
 w6 d l w v node k<d.length/\l+k<=lvD d (w6 d l w v node k)/\∀ b,(∀ j,j<k->b (l+j)=v.testBit (w-1-j))->evD d b node=evD d b (w6 d l w v node k):=by
 intro k
 induction k with
 | zero=>intro _;exact⟨hn,hl,fun b _=>rfl⟩
 | succ k ih=>
  intro hk;obtain⟨h1,h2,h3⟩:=ih (by omega);rw[Z8];obtain⟨g1,g2,g3⟩:=ko h h1 (L:=l+k) (by omega) h2 (v.testBit (w-1-k));refine⟨g1,by omega,fun b hb=>?_⟩;rw[h3 b fun j hj=>hb j (by omega),g3 b (hb k (by omega))]
def qab (p:Problem)(b:Nat->Bool)(i:Nat):Nat:=zo (fun k=>b (Y0 (qT p) i+jx p i-1-k)) (jx p i)
theorem qg5 {p:Problem}{b:Nat->Bool}{i v:Nat}(h:qab p b i=v){j:Nat}(hj:j<jx p i):b (Y0 (qT p) i+j)=v.testBit (jx p i-1-j):=by
 rw[<- h];unfold qab;rw[qW];have h1:jx p i-1-j<jx p i:=by omega
 have h2:Y0 (qT p) i+jx p i-1-(jx p i-1-j)=Y0 (qT p) i+j:=by omega
 simp[h1,h2]
def qjt:List (Nat×Nat)->Nat->Bool
 | [],_=>false
 | (w,v)::r,l=>if l<w then v.testBit (w-1-l) else qjt r (l-w)
theorem qeS:∀ (l:List (Nat×Nat)) (k w v j:Nat),l[k]?=some (w,v)->j<w->qjt l (((l.take k).map (·.1)).sum+j)=v.testBit (w-1-j)
 | [],k,w,v,j,h,_=>by simp at h
 | (w',v')::r,0,w,v,j,h,hj=>by
  simp at h;obtain⟨rfl,rfl⟩:=h;simp[qjt,hj]
 | (w',v')::r,k+1,w,v,j,h,hj=>by
  have ih:=qeS r k w v j (by simpa using h) hj;have e:((((w',v')::r).take (k+1)).map (·.1)).sum+j=w'+(((r.take k).map (·.1)).sum+j):=by simp;omega
  rw[e,qjt,if_neg (by omega),qq2,ih]
theorem qeR {p:Problem}(hv:qi p=0)(val:Nat->Nat):∃ b,∀ i∈(NG p).flatten,qab p b i=val i % 2 ^ jx p i:=by
 refine⟨qjt ((NG p).flatten.map fun i=>(jx p i,val i)),fun i hi=>?_⟩;obtain⟨k,hk⟩:=qqJ hi;have hl:=qid hv hk;rw[<- Jm];unfold qab;apply zq;intro j hj;have h:=qeS ((NG p).flatten.map fun i=>(jx p i,val i)) k (jx p i) (val i) (jx p i-1-j) (by rw[qqp,hk];rfl) (by omega);have e1:(((((NG p).flatten.map fun i=>(jx p i,val i)).take k).map (·.1)).sum)=LW p ((NG p).flatten.take k):=by
  unfold LW;rw[<- List.map_take,qrp];rfl
 rw[e1,<- hl]at h;have e2:Y0 (qT p) i+jx p i-1-j=Y0 (qT p) i+(jx p i-1-j):=by omega
 have e3:jx p i-1-(jx p i-1-j)=j:=by omega
 rw[e2,h,e3]
theorem Vg {p:Problem}(hv:qi p=0){i:Nat}{v:Var}(hi:p.vars[i]?=some v)(hm:v.mode≠0):i∈(NG p).flatten:=by
 obtain⟨k,hk⟩:=qhz hv hi hm;rw[QZ hv,qqp]at hk
 cases h:(NG p).flatten[k]? with
 | none=>rw[h]at hk;cases hk
 | some j=>
  rw[h]at hk;have:(j:Int)=i:=by simpa using hk
  have:j=i:=by omega
  exact this▸qp6 h
theorem yQ {p:Problem}(hv:qi p=0){i:Nat}(hi:i∈(NG p).flatten):∃ v,p.vars[i]?=some v/\v.mode≠0:=by
 obtain⟨k,hk⟩:=qjQ hv hi;obtain⟨n,v,hn,hv',hm⟩:=YE ((j8 hv).2.1 _ (qp6 hk));have:n=i:=by omega
 subst this;exact⟨v,hv',hm⟩
theorem V0 {p:Problem}(hv:qi p=0)(b:Nat->Bool){i:Nat}{v:Var}(hi:p.vars[i]?=some v)(hm:v.mode≠0):(ZJ p.vars (qT p) b)[i]?=some (qab p b i:Int):=by
 have hl:i<(qT p).length:=by rw[y9];exact (qp5.1 hi).1
 have hli:=qp8 hl;rw[qdf hi hli];unfold qg7 qab Y0;rw[if_neg hm,(qnY hv hi).1,qqh,hli];rfl
theorem qjD {p:Problem}(b:Nat->Bool){i:Nat}{v:Var}(hi:p.vars[i]?=some v)(hm:v.mode=0):(ZJ p.vars (qT p) b)[i]?=some v.value:=by
 have hl:i<(qT p).length:=by rw[y9];exact (qp5.1 hi).1
 have hli:=qp8 hl;rw[qdf hi hli];unfold qg7;rw[if_pos hm]
theorem qhU:∀ {vs:List Var} {a:List Int},a.length=vs.length->(∀ (i:Nat) (v:Var),vs[i]?=some v->∃ x,a[i]?=some x/\(if v.mode=0 then x=v.value else 0<=x/\x<(zi v:Nat)))->okA vs a
 | [],[],_,_=>trivial
 | [],_::_,h,_=>by simp at h
 | _::_,[],h,_=>by simp at h
 | v::vs,x::a,h,hx=>by
  obtain⟨y,hy,hc⟩:=hx 0 v rfl;simp at hy;subst hy;exact⟨hc,qhU (by simpa using h) fun i w hw=>by
   obtain⟨y,hy,hc⟩:=hx (i+1) w (by simpa using hw);exact⟨y,by simpa using hy,hc⟩⟩
theorem qn9 (p:Problem)(b:Nat->Bool)(i:Nat):qab p b i<2 ^ jx p i:=ke _ _
theorem qmz {p:Problem}(hv:qi p=0)(b:Nat->Bool):ZJ p.vars (qT p) b∈QA p.vars:=by
 refine ky.2 (qhU (J8 (y9 p) b) fun i v hi=>?_);by_cases hm:v.mode=0
 . exact⟨_,qjD b hi hm,by rw[if_pos hm]⟩
 . refine⟨_,V0 hv b hi hm,?_⟩;rw[if_neg hm];have:=qn9 p b i;rw[(qnY hv hi).1]at this;unfold zi;omega
theorem qjC {p:Problem}(hv:qi p=0){a:List Int}(ha:a∈QA p.vars):∃ b,ZJ p.vars (qT p) b=a/\∀ i∈(NG p).flatten,a[i]?=some (qab p b i:Int):=by
 have hok:=ky.1 ha;obtain⟨b,hb⟩:=qeR hv (fun i=>(a.getD i 0).toNat);have hr:∀ i∈(NG p).flatten,a[i]?=some (qab p b i:Int):=fun i hi=>by
  obtain⟨v,hv',hm⟩:=yQ hv hi;obtain⟨x,hx,hc⟩:=kU hok hv';rw[if_neg hm]at hc;have:=hb i hi;rw[qqh,hx]at this;unfold zi at hc;rw[(qnY hv hv').1]at this;dsimp only[Option.getD]at this;have hlt:x.toNat<2 ^ v.width.toNat:=by omega
  rw[qrJ hlt]at this;rw[hx,this];congr 1;omega
 refine⟨b,?_,hr⟩;apply qqW;intro i
 cases hi:p.vars[i]? with
 | none=>
  have hl:=qsJ.1 hi;rw[qqG (by rw[J8 (y9 p)];exact hl),qqG (by rw[hok.len];exact hl)]
 | some v=>
  by_cases hm:v.mode=0
  . obtain⟨x,hx,hc⟩:=kU hok hi;rw[if_pos hm]at hc;rw[qjD b hi hm,hx,hc]
  . rw[V0 hv b hi hm,hr i (Vg hv hi hm)]
structure Inv (p:Problem)(d:List Nd)(root:Nat)(c:List (Nat×Nat))(node:Nat):Prop where
 lt:node<d.length
 lv:LW p (c.map (·.1))<=lvD d node
 pre:∃ post,(NG p).flatten=c.map (·.1)++post
 ev:∀ b,(∀ q∈c,qab p b q.1=q.2)->evD d b root=evD d b node
theorem qeq {p:Problem}(hv:qi p=0){d:List Nd}(hd:DagOk d){root:Nat}{c:List (Nat×Nat)}{node:Nat}(h:Inv p d root c node){i v:Nat}(hi:∃ post,(NG p).flatten=c.map (·.1)++i::post) :
 Inv p d root (c++[(i,v)]) (w6 d (Y0 (qT p) i) (jx p i) v node (jx p i)):=by
 obtain⟨post,hpost⟩:=hi;have hk:(NG p).flatten[(c.map (·.1)).length]?=some i:=by rw[hpost,qqd (qqf _),qrl];rfl
 have htk:(NG p).flatten.take (c.map (·.1)).length=c.map (·.1):=by rw[hpost,List.take_left]
 have hlv:=qid hv hk;rw[htk]at hlv;have hle:LW p (c.map (·.1))+jx p i<=20:=by
  have h1:=qp2 hv;rw[hpost,qjU]at h1;have:LW p (i::post)=jx p i+LW p post:=by simp[LW]
  omega
 obtain⟨h1,h2,h3⟩:=qi5 hd (w:=jx p i) (v:=v) h.lt (l:=Y0 (qT p) i) (by rw[hlv];exact h.lv) (by omega) (jx p i) (qqf _);refine⟨h1,?_,⟨post,by rw[hpost];simp⟩,fun b hb=>?_⟩
 . rw[qqY,qjU];have:LW p (([(i,v)]:List (Nat×Nat)).map (·.1))=jx p i:=by simp[LW]
   omega
 . rw[h.ev b fun q hq=>hb q (by simp[hq])];exact h3 b fun j hj=>qg5 (hb (i,v) (by simp)) hj
theorem qfn {p:Problem}{b b':Nat->Bool}{i:Nat}(h:∀ j,j<jx p i->b (Y0 (qT p) i+j)=b' (Y0 (qT p) i+j)):qab p b i=qab p b' i:=by
 unfold qab;apply zq;intro k hk;have e:Y0 (qT p) i+jx p i-1-k=Y0 (qT p) i+(jx p i-1-k):=by omega
 rw[e];exact h _ (by omega)
theorem qeG {q:Nat×Nat}:∀ {c:List (Nat×Nat)},(c.map (·.1)).Nodup->q∈c->c.find? (fun q'=>q'.1==q.1)=some q
 | [],_,h=>by simp at h
 | x::r,hn,h=>by
  rw[qqk,qro]at hn;rcases qqv.1 h with rfl|h
  . simp
  . have hne:¬ x.1=q.1:=fun e=>hn.1 (qqx.2 ⟨q,h,e.symm⟩)
    have:(x.1==q.1)=false:=by simpa using hne
    rw[qsb,this];exact qeG hn.2 h
theorem qep {p:Problem}(hv:qi p=0){R:List Ex}{d:List Nd}(hd:DagOk d){root:Nat}(hroot:∀ b,evD d b root=Qe p.vars R (ZJ p.vars (qT p) b)){c:List (Nat×Nat)}(hc:qmP p c)(hnd:(NG p).flatten.Nodup){node:Nat}(h:Inv p d root c node) :
 okC p R c = !decide (node=0):=by
 obtain⟨post,hpost⟩:=h.pre;have hmem:∀ q∈c,q.1∈(NG p).flatten:=fun q hq=>by rw[hpost];exact qqo.2 (.inl (qqx.2 ⟨q,hq,rfl⟩))
 by_cases h0:node=0
 . have:okC p R c=false:=by
    rw[qrg];intro hok;unfold okC at hok;obtain⟨a,ha,hs⟩:=qqr.1 hok;rw[qp9]at hs;obtain⟨b,hb,hbv⟩:=qjC hv ha;have hf:∀ q∈c,qab p b q.1=q.2:=fun q hq=>by
     have h1:=hbv _ (hmem q hq);have h2:=of_decide_eq_true (qqi.1 hs.2 q hq);rw[h1]at h2;have:(qab p b q.1:Int)=(q.2:Int):=by simpa using h2
     omega
    have h1:=h.ev b hf;rw[hroot,hb,h0,JN hd]at h1;rw[h1]at hs;cases hs.1
   rw[this,h0];rfl
 . have:okC p R c=true:=by
    obtain⟨b,hb⟩:=qpF hd node node h.lt (qqf _) h0;obtain⟨b0,hb0⟩:=qeR hv (fun i=>match c.find? (fun q=>q.1==i) with|some q=>q.2|none=>0);obtain⟨b',hb'⟩:∃ b':Nat->Bool,b'=fun l=>if l<LW p (c.map (·.1)) then b0 l else b l:=⟨_,rfl⟩
    have hnode:evD d b' node=true:=by
     rw[<- hb];apply qbK hd h.lt;intro l hl;have:=h.lv;rw[hb'];dsimp only;rw[if_neg (by omega)]
    have hcn:(c.map (·.1)).Nodup:=by
     rw[hpost]at hnd;exact (qqZ.1 hnd).1
    have hf:∀ q∈c,qab p b' q.1=q.2:=fun q hq=>by
     obtain⟨k,hk⟩:=qqJ hq;have hkl:=(qp5.1 hk).1;have hkF:(NG p).flatten[k]?=some q.1:=(by rw[hpost,qqe (by simpa using hkl),qqp,hk];rfl);have hlv:=qid hv hkF;have htk:(NG p).flatten.take k=(c.map (·.1)).take k:=(by rw[hpost,qq3 (by simp;omega)]);have hw:Y0 (qT p) q.1+jx p q.1<=LW p (c.map (·.1)):=by
      rw[hlv,htk];have h1:(c.map (·.1))=(c.map (·.1)).take k++q.1::(c.map (·.1)).drop (k+1):=by
       have h2:(c.map (·.1)).drop k=q.1::(c.map (·.1)).drop (k+1):=by
        have h3:(c.map (·.1))[k]?=some q.1:=(by rw[qqp,hk];rfl);obtain⟨h4,h5⟩:=qp5.1 h3;rw[qqt h4,h5]
       rw[<- h2,qqQ]
      have h2:=congrArg (LW p) h1;rw[qjU]at h2;have h3:LW p (q.1::(c.map (·.1)).drop (k+1))=jx p q.1+LW p ((c.map (·.1)).drop (k+1)):=(by simp[LW]);omega
     have e1:qab p b' q.1=qab p b0 q.1:=qfn fun j hj=>by
      rw[hb'];dsimp only;rw[if_pos (by omega)]
     rw[e1,hb0 _ (hmem q hq)];have hfind:=qeG hcn hq;rw[hfind];exact qrJ (hc q hq).2
    have hr:=h.ev b' hf;rw[hnode,hroot]at hr;unfold okC;refine qqr.2 ⟨_,qmz hv b',?_⟩;rw[hr,qrm,qqi];intro q hq;obtain⟨⟨v,hi,hm⟩,_⟩:=hc q hq;rw[V0 hv b' hi hm,hf q hq];simp
   rw[this];simp[h0]
theorem qhi {p:Problem}(hv:qi p=0){R:List Ex}{d:List Nd}(hd:DagOk d){root:Nat}(hroot:∀ b,evD d b root=Qe p.vars R (ZJ p.vars (qT p) b))(hnd:(NG p).flatten.Nodup){fx:Nat->Option Nat}(hf:qj1 p fx) :
 ∀ (g:List Nat) (c:List (Nat×Nat)) (node:Nat),(∃ post,(NG p).flatten=c.map (·.1)++g++post)->qmP p c->Inv p d root c node->qac p (qT p) d fx g node=qcm p R fx g c:=by
 intro g
 induction g with
 | nil=>
  intro c node hg hc h;unfold qac qcm;rw[qep hv hd hroot hc hnd h];by_cases h0:node=0<;>simp[h0]
 | cons i r ih=>
  intro c node hg hc h;obtain⟨post,hpost⟩:=hg;unfold qac qcm;rw[qep hv hd hroot hc hnd h];by_cases h0:node=0
  . simp[h0]
  . simp only[h0,if_false,decide_false,qtE,if_true];refine kq fun s v hvm=>?_
    have hiF:i∈(NG p).flatten:=(by rw[hpost];simp);have hc':qmP p (c++[(i,v)]):=fun q hq=>by
     rcases qqo.1 hq with hq|hq
     . exact hc q hq
     . have:=qqy.1 hq;subst this;exact⟨yQ hv hiF,qgW hf hvm⟩
    rw[ih (c++[(i,v)]) _ ⟨post,by rw[hpost];simp⟩ hc' (qeq hv hd h ⟨r++post,by rw[hpost];simp⟩)]
theorem qpg {p:Problem}{d:List Nd}{root:Nat}(h:root<d.length):Inv p d root [] root:=⟨h,by simp[LW],⟨_,rfl⟩,fun b _=>rfl⟩
theorem qlD {p:Problem}(hv:qi p=0){d:List Nd}(hd:DagOk d){root:Nat}(val:Nat->Nat):∀ (l:List Nat) (c:List (Nat×Nat)) (node:Nat),Inv p d root c node->(∃ post,(NG p).flatten=c.map (·.1)++l++post) ->
 Inv p d root (c++l.map fun i=>(i,val i)) (l.foldl (fun node i=>w6 d (Y0 (qT p) i) (jx p i) (val i) node (jx p i)) node):=by
 intro l
 induction l with
 | nil=>intro c node h _;simpa using h
 | cons i r ih=>
  intro c node h ⟨post,hpost⟩;have h1:=qeq hv hd h (i:=i) (v:=val i) ⟨r++post,by rw[hpost];simp⟩;have h2:=ih _ _ h1 ⟨post,by rw[hpost];simp⟩;rw[qqV,qqk];simpa using h2
theorem ZH {p:Problem}{gi:Nat}{g:List Nat}(h:(NG p)[gi]?=some g):∃ post,(NG p).flatten=((NG p).take gi).flatten++g++post:=by
 have h1:=qqQ gi (NG p);obtain⟨h2,h3⟩:=qp5.1 h;have h4:(NG p).drop gi=g::(NG p).drop (gi+1):=by rw[qqt h2,h3]
 refine⟨((NG p).drop (gi+1)).flatten,?_⟩
 conv=>lhs;rw[<- h1,h4]
 simp
theorem J9 {p:Problem}(hv:qi p=0):(NG p).flatten.Nodup:=by
 have h:=(j8 hv).2.2.1;rw[QZ hv]at h;exact (qsV.1 h).imp fun hne e=>hne (by rw[e])
theorem qoc {s:Spc}{d:List Nd}(h:SpV s d)(hroot:s.small=true->∀ b,evD d b s.root=Qe s.p.vars s.R (ZJ s.p.vars (qT s.p) b)){fx:Nat->Option Nat}(hf:qj1 s.p fx){a:List Int}(ha:∀ i∈(NG s.p).flatten,aN a i<2 ^ jx s.p i){gi:Nat}(hgi:gi<(NG s.p).length) :
 Vc s d fx a gi=qcm s.p s.R fx ((NG s.p).getD gi []) (((NG s.p).take gi).flatten.map fun i=>(i,aN a i)):=by
 obtain⟨g,hg⟩:∃ g,(NG s.p)[gi]?=some g:=⟨_,qp8 hgi⟩;have hgd:(NG s.p).getD gi []=g:=by simp[qqh,hg]
 obtain⟨post,hpost⟩:=ZH hg;have hin:∀ i∈((NG s.p).take gi).flatten,i∈(NG s.p).flatten:=fun i hi=>by rw[hpost];simp[hi]
 have hc:qmP s.p (((NG s.p).take gi).flatten.map fun i=>(i,aN a i)):=fun q hq=>by
  obtain⟨i,hi,rfl⟩:=qqx.1 hq;exact⟨yQ h.vp (hin i hi),ha i (hin i hi)⟩
 have hmm:(((NG s.p).take gi).flatten.map fun i=>(i,aN a i)).map (·.1)=((NG s.p).take gi).flatten:=by
  rw[qrp];exact List.map_id _
 unfold Vc;rw[hgd];by_cases hsm:s.small=true
 . rw[if_pos hsm];obtain⟨hd,_,hr⟩:=h.dag hsm;have hi:=qlD h.vp hd (aN a) ((NG s.p).take gi).flatten [] s.root (qpg hr) ⟨g++post,by rw[hpost];simp⟩;rw[h.lv];have:=qhi h.vp hd (hroot hsm) (J9 h.vp) hf g _ _ ⟨post,by rw[qqw,hmm];exact hpost⟩ (by rw[qqw];exact hc) hi;rw[qqw]at this;rw[<- this];unfold Zl;rw[h.lv]
 . rw[if_neg hsm];have:=qhf h.vp s.R hf g _ (fun i hi=>yQ h.vp (by rw[hpost];simp[hi])) hc;rw[<- this];unfold Wn;rw[qrp];rfl
end Go.Proofs.YtoibbcnfhhggnaaGreatDoor
end
