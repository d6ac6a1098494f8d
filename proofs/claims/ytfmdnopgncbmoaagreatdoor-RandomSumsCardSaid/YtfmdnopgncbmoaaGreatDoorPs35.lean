import Derived.Test.YtfmdnopgncbmoaaGreatDoorPs34
import Derived.SizedLaws
import Derived.Test.YtfmdnopgncbmoaaGreatDoorRows
import Derived.Test.YtfmdnopgncbmoaaGreatDoorTie
import Derived.Test.YtfmdnopgncbmoaaGreatDoorCards
import Derived.ProofKit
import Derived.LaidMore
import Derived.OpenShut
import Derived.Stop.Joined
import Derived.SevenTiedAt
import Derived.WideKeyArgs
import Derived.MakeChecks
import Derived.KernelRfl
set_option maxHeartbeats 16000000
set_option maxRecDepth 100000
set_option linter.all false
set_option linter.defProp false
namespace Go.Proofs.YtfmdnopgncbmoaaGreatDoor
open Go Go.Abs Proofs.Tryz Go.ChangeShapes Go.WideShapes Go.ChangeAt Go.RowKit
def fxE(e:Nat×Nat×Nat):AV×AV×Nat:=(.int .i64 (e.1:Int),.int .i64 (e.2.1:Int),e.2.2)
def fxO:List (Nat×Nat×Nat)->Nat->Option Nat
 |[],_=>none
 |e::r,i=>if e.1=i then some e.2.1 else fxO r i
def wo(f:Nat->Option Nat)(i x:Nat):Nat->Option Nat:=fun k=>if k=i then some x else f k
def qc0(i):∀(E) (k),(fxO E i=none/\jz (.int .i64 (i:Int)) (E.map fxE) k=some none/\∀y c,fxO (E++[(i,y,c)])=wo (fxO E) i y) \/
 ∃j x,fxO E i=some x/\jz (.int .i64 (i:Int)) (E.map fxE) k=some (some (k+j,.int .i64 (x:Int)))/\∀y:Nat,∃E':List (Nat×Nat×Nat),(E.map fxE).modify j (fun e=>(.int .i64 (i:Int),.int .i64 (y:Int),e.2.2))=E'.map fxE/\fxO E'=wo (fxO E) i y:=by
 intro E
 induction E with
 | nil=>
  intro k;refine .inl ⟨rfl,rfl,fun y c=>?_⟩;funext j;by_cases h:j=i
  . subst h;simp[fxO,wo]
  simp[fxO,wo,h];exact fun e=>h e.symm
 | cons e r ih=>
  intro k;by_cases he:e.1=i
  . refine .inr ⟨0,e.2.1,by simp[fxO,he],?_,fun y=>⟨(i,y,e.2.2)::r,by simp[fxE,List.modify],?_⟩⟩
    . simp[fxE,jz,Qj,he]
    . funext j;by_cases h:j=i
      . subst h;simp[fxO,wo]
      have h':¬i=j:=fun e=>h e.symm
      simp[fxO,wo,h,h',he]
  have hne:¬(i:Int)=(e.1:Int):=by omega
  have hfind:jz (.int .i64 (i:Int)) ((e::r).map fxE) k=jz (.int .i64 (i:Int)) (r.map fxE) (k+1):=by
   simp[fxE,jz,Qj,show((i:Int)==(e.1:Int))=false by simpa using hne]
  rcases ih (k+1) with⟨h1,h2,h3⟩|⟨j,x,h1,h2,h3⟩
  . refine .inl ⟨by simp[fxO,he,h1],by rw[hfind,h2],fun y c=>?_⟩;funext a;have:=congrFun (h3 y c) a;simp only[wo]at this⊢;by_cases ha:e.1=a
    . have hai:¬a=i:=fun h=>he (ha.trans h)
      simp[fxO,ha,hai]
    simp[fxO,ha,this]
  refine .inr ⟨j+1,x,by simp[fxO,he,h1],by rw[hfind,h2,qAR,qAt 1 j],fun y=>?_⟩;obtain⟨E',e1,e2⟩:=h3 y;refine⟨e::E',by simp[List.modify,<- e1],?_⟩;funext a;have:=congrFun e2 a;simp only[wo]at this⊢;by_cases ha:e.1=a
  . have hai:¬a=i:=fun h=>he (ha.trans h)
    simp[fxO,ha,hai]
  simp[fxO,ha,this]
def FxS(F:Nat)(fx:Nat->Option Nat)(H:List Blk):Prop:=∃E n,H[F]?=some (.map (E.map fxE) n)/\fxO E=fx
def FxS.ok{F fx H}(h:FxS F fx H):qgE (.map F) fx H:=by
 obtain⟨E,n,h1,rfl⟩:=h;refine .inr ⟨F,_,n,rfl,h1,fun i=>?_⟩;rcases qc0 i E 0 with⟨h1,h2,_⟩|⟨j,x,h1,h2,_⟩
 . rwa[h1]
 rw[h1];exact⟨_,h2⟩
def FxS.set{F fx H}(h:FxS F fx H)(i y:Nat):∃B,(∀T,q9 (Dof prog) ⟨H,T⟩ 125 (.map F) (.int .i64 (i:Int)) (.int .i64 (y:Int))=some ⟨H.set F B,T⟩)/\FxS F (wo fx i y) (H.set F B):=by
 obtain⟨E,n,h1,rfl⟩:=h;have hl:=(qyF.1 h1).1;rcases qc0 i E 0 with⟨_,h2,h3⟩|⟨j,x,_,h2,h3⟩
 . refine⟨.map ((E++[(i,y,n)]).map fxE) (n+1),fun T=>by simp[q9,zt,h1,h2,fxE],E++[(i,y,n)],n+1,qyL hl,h3 y n⟩
 obtain⟨E',e1,e2⟩:=h3 y;rw[qz9]at h2;exact⟨.map (E'.map fxE) n,fun T=>by simp[q9,zt,h1,h2,e1],E',n,qyL hl,e2⟩
def FxS.keep{F fx H H' bs}(h:FxS F fx H)(hk:KpL bs H H')(hb:F∉bs):FxS F fx H':=by
 obtain⟨E,n,h1,h2⟩:=h;exact⟨E,n,hk.2 _ _ h1 hb,h2⟩
def FxS.ne{F N fx H B}(h:FxS F fx H)(hb:N≠F):FxS F fx (H.set N B):=by
 obtain⟨E,n,h1,h2⟩:=h;exact⟨E,n,by rw[qyI hb];exact h1,h2⟩
def qar(f i x):wo f i x i=some x:=by simp[wo]
def qkD(f i x y):wo (wo f i x) i y=wo f i y:=by
 funext k;by_cases h:k=i<;>simp[wo,h]
def FxS.get{F fx H}(h:FxS F fx H){i x}(hx:fx i=some x)(T):zl (Dof prog) ⟨H,T⟩ 125 (.map F) (.int .i64 (i:Int)) false=some (.int .i64 (x:Int)):=by
 obtain⟨E,n,h1,rfl⟩:=h;rcases qc0 i E 0 with⟨h2,_,_⟩|⟨j,x',h2,h3,_⟩
 . rw[hx]at h2;cases h2
 rw[hx]at h2;cases h2;simp[zl,zt,h1,h3]
def qgf(l):(l.map qq).flatten=zw l:=by
 induction l with
 |nil=>rfl
 |cons a r ih=>rw[qyR,qzn,ih];rfl
def qjr{r a H}(hr:AsR r a H)(ha:a≠[])(hl:a.length<=1000)(T):
 qf prog GG 73 [r] ⟨H,T⟩ (fun v U'=>v=.ms H.length 0 a.length 1/\U'=⟨H++[.cells (zw a)],T⟩):=by
 refine qCM ⟨true,[],[],[]⟩ qe func73 rfl (by kernel_rfl) ?_;rcases hr with⟨tok,rfl⟩|⟨N,rfl,hA⟩
 . cases a with
   |nil=>exact absurd rfl ha
   | cons x a=>
    have h2:a.length+1<=549755813888:=(by simp at hl;omega);have h3:=qgf (x::a);simp only[qyR]at h3;simp[zn,zZ,qP,KA,h2];exact h3
 have h2:a.length<=549755813888:=by omega
 have h1:(zw a).take a.length=zw a:=qyN (by rw[qY];exact qyQ _);simp[hA,zn,zZ,qP,KA,qY,h1,h2,ha]
def ql2{s x z}:z∈qes s x↔z∈s\/z=x:=by
 have:∀(s:List Int),z∈qgC s x↔z∈s\/z=x:=by
  intro s
  induction s with
  |nil=>simp[qgC]
  | cons y r ih=>
   unfold qgC;split
   . simp only[qy9,ih];constructor
     . rintro(h|h|h)<;>simp[h]
     rintro((h|h)|h)<;>simp[h]
   simp only[qy9];constructor
   . rintro(h|h|h)<;>simp[h]
   rintro((h|h)|h)<;>simp[h]
 rw[qes,List.mem_reverse,this,List.mem_reverse]
def qbl{z}:∀(n) (l),l.length=n->(z∈wA l↔z∈l):=by
 intro n
 induction n with
 |zero=>intro l h;rw[qyX h];rfl
 | succ n ih=>
  intro l h;have hne:l≠[]:=fun e=>by rw[e]at h;simp at h
  have e:=qAX hne;rw[<- e,ZG,ql2,ih _ (by simp[h])];simp
def y9(g:List Nat):List Nat:=(wA (g.map fun n:Nat=>(n:Int))).map Int.toNat
def qdQ(g):wA (g.map fun n:Nat=>(n:Int))=(y9 g).map fun n:Nat=>(n:Int):=by
 unfold y9;rw[qz0]
 symm
 conv=>rhs;rw[<- List.map_id (wA _)]
 refine qzW fun z hz=>?_
 rw[qbl _ _ rfl]at hz;obtain⟨n,_,rfl⟩:=qza.1 hz;rfl
def qho{g i}:i∈y9 g↔i∈g:=by
 have:((i:Int)∈wA (g.map fun n:Nat=>(n:Int)))↔(i:Int)∈(g.map fun n:Nat=>(n:Int)):=qbl _ _ rfl;rw[qdQ]at this;have key:∀l:List Nat,((i:Int)∈l.map fun n:Nat=>(n:Int))↔i∈l:=fun l=>by
  rw[qza];exact⟨fun⟨n,hn,e⟩=>by
   have:n=i:=by omega
   exact this▸hn,fun h=>⟨i,h,rfl⟩⟩
 rwa[key,key]at this
def qhp(g):(y9 g).length=g.length:=by
 unfold y9;rw[qzk,YQ _ _ rfl,qzk]
def we(F:Nat->Nat):Nat->Nat->Int->Nat×Int
 |0,x,idx=>(x,idx)
 |n+1,x,idx=>if idx<F x then(x,idx) else if n=0 then(x,idx-F x) else we F n (x+1) (idx-F x)
def wdN(p:Problem)(i:Nat):Nat:=match p.vars[i]? with|some v=>v.width.toNat|none=>0
noncomputable def chS(s:Spc)(d:List Nd)(a:List Int)(gi:Nat):List Nat->(Nat->Option Nat)->Int->List Int->List Int
 |[],_,_,out=>out
 | i::r,fx,idx,out=>
  let q:=we (fun x=>qaD s d (wo fx i x) a gi) (2^wdN s.p i) 0 idx
  chS s d a gi r (wo fx i q.1) q.2 (out.set i q.1)
noncomputable def VL(s:Spc)(d:List Nd)(gi:Nat)(a:List Int)(idx:Int):List Int:=chS s d a gi (y9 ((NG s.p).getD gi [])) (fun _=>none) idx a
def ChQ(out:List Int)(H:List Blk)(v:AV)(U':St):Prop:=KpL [] H U'.H/\∃N,v=.ms N 0 out.length 1/\H.length<=N/\U'.H[N]?=some (.cells (zw out))
def qmN{s d}(h:SpV s d)(hl12:(NG s.p).flatten.length<=12){gi}(hgi:gi<(NG s.p).length){r a H}(hao:AOk s.p a)(hal:a.length=s.p.vars.length)(hs:SpOk s H)(ha:AsR r a H)(T)
 {idx} (hi0:0<=idx) (hi1:idx<2^62):
 qf prog GG 37 [.ptr s.S 0,.int .i64 gi,r,.int .i64 idx] ⟨H,T⟩ (ChQ (VL s d gi a idx) H):=by
 refine qCN qe func37 rfl (by kernel_rfl) ?_;obtain⟨g,hg⟩:∃g,(NG s.p)[gi]?=some g:=⟨_,qyH hgi⟩;have hgm:=qyG hg;have hmf:∀i∈g,i∈(NG s.p).flatten:=fun i hi=>qzl.2 ⟨g,hgm,hi⟩
 have hg12:g.length<=12:=by
  have:∀(G:List (List Nat)),g∈G->g.length<=G.flatten.length:=by
   intro G
   induction G with
   |nil=>intro h;simp at h
   | cons x r ih=>
    intro h;rw[qzn,qyK];rcases qy9.1 h with rfl|h
    . omega
    have:=ih h;omega
  exact qzs (this _ hgm) hl12
 have hgne:g≠[]:=by
  obtain⟨g',hg',rfl⟩:=qza.1 hgm;have:=(jW h.vp).1 g' hg';simpa using this
 have hane:a≠[]:=by
  intro e;obtain⟨i,r',rfl⟩:=qBn hgne;obtain⟨n,hn,_⟩:=hao i (hmf i (by simp));rw[e]at hn;simp at hn
 have hvl:=h.vq.vars;have hcl:=qjr ha hane (by omega) T;have hG:=WJ h.vp;have hS:=hs.c;simp only[spE,qA,qy3,qy2,hG]at hS;have hgil:gi<s.p.groups.length:=by
  have:(NG s.p).length=s.p.groups.length:=by simp[NG]
  omega
 have hval:=qgX (g.map fun n:Nat=>(n:Int)) .none (by simp);have hsrt:=qfy (g.map fun n:Nat=>(n:Int)) (by simpa using hg12) .none;have hrw:Jv (g.map fun n:Nat=>(n:Int))=g.map zD:=by simp[Jv,zD]
 have hnr:zk (g.map zD)=true:=by rw[<- hrw];exact wI _
 rw[hrw]at hval hsrt;rw[qdQ,qz0]at hsrt;rw[show((y9 g).map (qq∘fun n:Nat=>(n:Int)))=(y9 g).map zD by simp[qq,zD]]at hsrt;have hsl:(y9 g).length<=12:=by rwa[qhp]
 have hNl:(NG s.p).length=s.p.groups.length:=by simp[NG]
 unfold VL;rw[show(NG s.p).getD gi []=g by simp[qyS,hg]];simp;refine qCQ hcl ?_;rintro v U ⟨rfl,rfl⟩;have hS1:=qa hS [.cells (zw a)];simp[hS,hg,yd,qa];refine qCO hval (by simp[hnr]) ?_;simp;refine qCO hsrt (by simp[hnr]) ?_;simp;refine qC2 (y9 g) (fun dn ev U=>ev 0=.ptr s.S 0/\ev 1=.int .i64 gi/\ev 2=r/\ev 9=.ms H.length 0 a.length 1/\ev 10=.map (H.length+1)/\ev 27=.sl 1 ((y9 g).map zD) .none/\ev 28=.int .i64 (y9 g).length/\ev 29=.int .i64 dn.length /\
  ∃(rest:List Nat) (fx:Nat->Option Nat) (ix:Int) (out:List Int),y9 g=dn++rest/\ev 3=.int .i64 ix/\chS s d a gi rest fx ix out=chS s d a gi (y9 g) (fun _=>none) idx a/\KpL [] H U.H/\U.H[H.length]?=some (.cells (zw out))/\FxS (H.length+1) fx U.H/\out.length=a.length/\0<=ix/\ix<2^62/\∀i x,fx i=some x->x<65536) ?_ ?_ ?_
 . exact⟨by simp,by simp,by simp,by simp,by simp,by simp,by simp,by simp,y9 g,fun _=>none,idx,a,rfl,by simp,rfl,qDj,by simp,⟨[],0,by simp,rfl⟩,rfl,hi0,hi1,by simp⟩
 . rintro dn i rest0 ev ⟨H1,T1⟩ R hR hd hx hlt ⟨e0,e1,e2,e9,e10,e27,e28,e29,rest,fx,ix,out,hre,e3,hch,hk,hN,hF,hol,hx0,hx1,hfx⟩;have hre':rest=i::rest0:=by
    have:=hre.symm.trans hd;simpa using this
   subst hre';obtain⟨v,l,hv,hw0,hw8,_,_,_⟩:=h.gr hmf i (qho.1 (qyG hx));have hvi:=(qyF.1 hv).1;have hs1:=vy hw0 (by omega);have hp8:2^v.width.toNat<=2^8:=qzc (by omega) (by omega);have hp0:0<2^v.width.toNat:=qAi _;obtain⟨W,hW⟩:∃W,W=2^v.width.toNat:=⟨_,rfl⟩;have hch':chS s d a gi rest0 (wo fx i (we (fun x=>qaD s d (wo fx i x) a gi) W 0 ix).1) (we (fun x=>qaD s d (wo fx i x) a gi) W 0 ix).2 (out.set i (we (fun x=>qaD s d (wo fx i x) a gi) W 0 ix).1)=chS s d a gi (y9 g) (fun _=>none) idx a:=by
    rw[<- hch,hW,<- show wdN s.p i=v.width.toNat by unfold wdN;rw[hv]];rfl
   rw[<- hW]at hs1 hp8 hp0;generalize hSF:(fun x=>qaD s d (wo fx i x) a gi)=SF at *;have hwl:=wr (n:=(dn.length:Int)+1) (by omega) (by omega);have hS1:=hk.2 _ _ hS (by simp);simp[e0,e27,e28,e29,show(dn.length:Int)<(y9 g).length by omega,hx,zD,hS1,hv,show ¬v.width<0 by omega,IntKind.bits,hs1];refine qCR (fun n ev U=>ev 0=.ptr s.S 0/\ev 1=.int .i64 gi/\ev 2=r/\ev 9=.ms H.length 0 a.length 1/\ev 10=.map (H.length+1)/\ev 12=.int .i64 i/\ev 27=.sl 1 ((y9 g).map zD) .none/\ev 28=.int .i64 (y9 g).length/\ev 29=.int .i64 dn.length/\ev 42=.int .i64 W /\
    ∃ (x:Nat) (fc:Nat->Option Nat) (ic:Int),n=W-x/\ev 3=.int .i64 ic/\ev 43=.int .i64 x/\KpL [] H U.H/\U.H[H.length]?=some (.cells (zw out))/\FxS (H.length+1) fc U.H/\0<=ic/\ic<2^62/\(∀i x,fc i=some x->x<65536) /\
     ((x<W/\we SF W 0 ix=we SF (W-x) x ic/\∀y,wo fc i y=wo fx i y)\/(x=W/\we SF W 0 ix=(W-1,ic)/\fc=wo fx i (W-1)))) W ?_ ?_
   . exact⟨by simp[e0],by simp[e1],by simp[e2],by simp[e9],by simp[e10],by simp,by simp[e27],by simp[e28],by simp[e29],by simp,0,fx,ix,by simp,by simp[e3],by simp,hk,hN,hF,hx0,hx1,hfx,.inl ⟨hp0,rfl,fun _=>rfl⟩⟩
   rintro n ev ⟨H2,T2⟩ R2 hR2 ⟨e0,e1,e2,e9,e10,e12,e27,e28,e29,e42,x,fc,ic,rfl,e3,e43,hk,hN,hF,hc0,hc1,hfc,hcase⟩;have hial:(i:Int)<(a.length:Int):=(by omega);have hial1:i+1<=a.length:=(by omega);have tail:∀(x:Nat) (ic:Int) (H3:List Blk) (T3:List (Option Nat)) (ev':Env),ev' 0=.ptr s.S 0->ev' 1=.int .i64 gi->ev' 2=r->ev' 9=.ms H.length 0 a.length 1->ev' 10=.map (H.length+1)->ev' 27=.sl 1 ((y9 g).map zD) .none->ev' 28=.int .i64 (y9 g).length->ev' 29=.int .i64 ((dn.length:Int)+1)->ev' 3=.int .i64 ic ->
    KpL [] H H3->H3[H.length]?=some (.cells (zw out))->FxS (H.length+1) (wo fx i x) H3->0<=ic->ic<2^62->x<65536->we SF W 0 ix=(x,ic)->R ev' ⟨H3.set H.length (.cells (zw (out.set i x))),T3⟩:=by
    intro x ic H3 T3 ev' a0 a1 a2 a9 a10 a27 a28 a29 a3 bk bN bF b0 b1 bx hp;refine hR _ _ ⟨a0,a1,a2,a9,a10,a27,a28,by rw[a29];simp,rest0,wo fx i x,ic,out.set i x,by rw[hd];simp,a3,?_,bk.setF (qyQ _),qyL (qyF.1 bN).1,bF.ne (by omega),by simp[hol],b0,b1,?_⟩
    . rw[<- hch',hp]
    intro k y hy;unfold wo at hy;split at hy
    . have:x=y:=by simpa using hy
      omega
    exact hfx k y hy
   rcases hcase with⟨hxW,hpk,hup⟩|⟨hxW,hpk,hup⟩
   . have hxW':(x:Int)<W:=(by omega);have hwx:=wr (n:=(x:Int)+1) (by omega) (by omega);obtain⟨B,hB,hF'⟩:=hF.set i x;have hF'':=hF';rw[hup]at hF'';have hkB:=hk.setF (b:=H.length+1) (y:=B) (by omega);have hNB:(H2.set (H.length+1) B)[H.length]?=some (.cells (zw out)):=(by rw[qyI (by omega)];exact hN);have hfu:∀k y,wo fx i x k=some y->y<65536:=fun k y hy=>by
      unfold wo at hy;split at hy
      . have:x=y:=by simpa using hy
        omega
      exact hfx k y hy
     have hsu:=qnm h hfu hgi hao (hs.keep hkB (by simp) (by simp) (by simp)) hF''.ok (ha.keep hkB (by simp)) T2;rw[<- show ∀x,SF x=qaD s d (wo fx i x) a gi from fun x=>by rw[<- hSF]]at hsu;have hpkx:we SF (W-x) x ic=if ic<SF x then(x,ic) else if W-x-1=0 then(x,ic-SF x) else we SF (W-x-1) (x+1) (ic-SF x):=by
      obtain⟨m,hm⟩:∃m,W-x=m+1:=⟨W-x-1,by omega⟩;rw[hm];rfl
     simp[e0,e1,e2,e10,e12,e42,e43,hxW',hB];refine qCQ hsu ?_;rintro v ⟨H3,T3⟩ ⟨rfl,hk3⟩;have hF3:=hF''.keep hk3 (by simp);have hN3:=hk3.2 _ _ hNB (by simp);have hkk:=hkB.trans hk3;have hget:=hF3.get (qar fx i x) T3;by_cases hlt2:ic<SF x
     . rw[if_pos hlt2]at hpkx;simp[e3,e9,e10,e12,e29,hlt2,hget,hial,hial1,hN3,qY,hol,wa,hwl];exact tail x ic H3 T3 _ (by simp[e0]) (by simp[e1]) (by simp[e2]) (by simp[e9]) (by simp[e10]) (by simp[e27]) (by simp[e28]) (by simp) (by simp[e3]) hkk hN3 hF3 hc0 hc1 (by omega) (by rw[hpk,hpkx])
     rw[if_neg hlt2]at hpkx;have hws:=wr (n:=ic-(SF x:Int)) (by omega) (by omega);simp[e3,e43,hlt2,hws,hwx];refine hR2 (W-(x+1)) _ _ (by omega) ⟨by simp[e0],by simp[e1],by simp[e2],by simp[e9],by simp[e10],by simp[e12],by simp[e27],by simp[e28],by simp[e29],by simp[e42],x+1,wo fx i x,ic-SF x,rfl,by simp,by simp,hkk,hN3,hF3,by omega,by omega,hfu,?_⟩;by_cases hlast:W-x-1=0
     . rw[if_pos hlast]at hpkx;refine .inr ⟨by omega,?_,?_⟩
       . rw[hpk,hpkx];congr 1;omega
       congr 1;omega
     rw[if_neg hlast]at hpkx;exact .inl ⟨by omega,by rw[hpk,hpkx];rfl,fun y=>qkD _ _ _ _⟩
   have hxW':¬(x:Int)<W:=(by omega);subst hup;have hget:=hF.get (qar fx i (W-1)) T2;simp[e9,e10,e12,e29,e42,e43,hxW,hget,hial,hial1,hN,qY,hol,wa,hwl];exact tail (W-1) ic H2 T2 _ (by simp[e0]) (by simp[e1]) (by simp[e2]) (by simp[e9]) (by simp[e10]) (by simp[e27]) (by simp[e28]) (by simp) (by simp[e3]) hk hN hF hc0 hc1 (by omega) hpk
 rintro ev ⟨H1,T1⟩ ⟨e0,e1,e2,e9,e10,e27,e28,e29,rest,fx,ix,out,hre,e3,hch,hk,hN,hF,hol,hx0,hx1,hfx⟩;have hre':rest=[]:=by simpa using hre
 subst hre';rw[<- hch];simp[e9,e28,e29];exact⟨hk,H.length,by simp[chS,hol],qyQ _,hN⟩
section
variable {H:Type}{enc:TypeId×Value->H}{w:World}{base:Nat}{held:Bool}
def JK{fs:Array Field}{t n:Nat}{cs:List Value}{x:DataW H×List MemPlace}(ht:prog.underlying t=some (.struct fs))(h:DataW.trod enc prog w base (fun _=>true) held n t cs=some x):
 ∃m,n=m+1/\cs.length=prog.cellsOf t/\∀(i:Nat) (f:Field),fs[i]?=some f->∃y,DataW.trod enc prog w base (fun _=>true) held m f.type ((cs.drop f.offset).take (prog.cellsOf f.type))=some y:=by
 obtain⟨xs,m,rfl,rfl,hl,hlen,hf⟩:=DataW.trod_struct ht h;refine⟨m,rfl,hl,fun i f hi=>?_⟩;have hlt:i<fs.size:=(qzv.1 hi).1;exact⟨xs[i]'(by omega),by rw[hf i f hi,qyH]⟩
def qhE{fs:Array Field}{t n:Nat}{cs:List Value}{x:DataW H×List MemPlace}(ht:prog.underlying t=some (.struct fs))(h:DataW.trod enc prog w base (fun _=>true) held n t cs=some x):
 ∃ m,n=m+1/\cs.length=prog.cellsOf t/\(∀(i:Nat) (f:Field),fs[i]?=some f->∃y,DataW.trod enc prog w base (fun _=>true) held m f.type ((cs.drop f.offset).take (prog.cellsOf f.type))=some y) /\
  ∀(i:Nat) (f:Field),fs[i]?=some f->∀y,DataW.trod enc prog w base (fun _=>true) held m f.type ((cs.drop f.offset).take (prog.cellsOf f.type))=some y->∃xs:List (DataW H×List MemPlace),x.1=.agg (xs.map (·.1))/\xs.length=fs.size/\xs[i]?=some y:=by
 obtain⟨xs,m,rfl,rfl,hl,hlen,hf⟩:=DataW.trod_struct ht h;refine⟨m,rfl,hl,fun i f hi=>?_,fun i f hi y hy=>⟨xs,rfl,hlen,?_⟩⟩
 . have hlt:i<fs.size:=(qzv.1 hi).1;exact⟨xs[i]'(by omega),by rw[hf i f hi,qyH]⟩
 rw[<- hf i f hi,hy]
def k3:prog.cellsOf 3=1:=by kernel_rfl
def k4:prog.cellsOf 4=1:=by kernel_rfl
def k9:prog.cellsOf 9=1:=by kernel_rfl
def k37:prog.cellsOf 35=1:=by kernel_rfl
def k22:prog.cellsOf 22=1:=by kernel_rfl
def k23:prog.cellsOf 23=1:=by kernel_rfl
def k24:prog.cellsOf 24=1:=by kernel_rfl
def k25:prog.cellsOf 25=1:=by kernel_rfl
def k27:prog.cellsOf 27=5:=by kernel_rfl
def k57:prog.cellsOf 71=4:=by kernel_rfl
def k50:prog.cellsOf 62=4:=by kernel_rfl
def k75:prog.cellsOf 114=1:=by kernel_rfl
def k77:prog.cellsOf 116=2:=by kernel_rfl
def qxp:prog.cellsOf 123=4:=by kernel_rfl
def qcx{s:ByteArray}:qg (KMw w) (.str s.data.toList) (.string s):=by
 obtain⟨d⟩:=s;unfold qg;show Value.string ⟨d⟩=Value.string ⟨d.toList.toArray⟩;rw[qAO]
def QX{n:Nat}{c:Value}{y:DataW H×List MemPlace}(h:DataW.trod enc prog w base (fun _=>true) held n 3 [c]=some y):∃i:Int,c=.int .i64 i:=by
 obtain⟨i,e,_⟩:=DataW.trod_int underlying3 h;exact⟨i,(List.cons.inj e).1⟩
def qpd{n:Nat}{c:Value}{y:DataW H×List MemPlace}(h:DataW.trod enc prog w base (fun _=>true) held n 4 [c]=some y):∃i:Bool,c=.bool i:=by
 obtain⟨i,e,_⟩:=DataW.trod_bool underlying4 h;exact⟨i,(List.cons.inj e).1⟩
def qnv{n:Nat}{c:Value}{y:DataW H×List MemPlace}(h:DataW.trod enc prog w base (fun _=>true) held n 9 [c]=some y):∃s:ByteArray,c=.string s/\Fits s.data.toList:=by
 obtain⟨s,e,_,hs⟩:=DataW.trod_string underlying9 h;refine⟨s,(List.cons.inj e).1,?_⟩;have:s.data.toList.length=s.size:=qzS;rw[Fits,this];simp only[maxLen]at hs;omega
def qvE{n:Nat}{cs:List Value}{x:DataW H×List MemPlace}(h:DataW.trod enc prog w base (fun _=>true) held n 62 cs=some x):∃v:Var,qh (KMw w) (qD v) cs/\Fits v.name:=by
 obtain⟨m,rfl,hl,hf⟩:=JK underlying62 h;rw[k50]at hl
 match cs,hl with
 | [a,b,c,d],_=>
  obtain⟨y0,h0⟩:=hf 0 _ rfl;obtain⟨y1,h1⟩:=hf 1 _ rfl;obtain⟨y2,h2⟩:=hf 2 _ rfl;obtain⟨y3,h3⟩:=hf 3 _ rfl;have h0:DataW.trod enc prog w base (fun _=>true) held m 9 (List.take (prog.cellsOf 9) (List.drop 0 [a,b,c,d]))=some y0:=h0;rw[k9]at h0;have h1:DataW.trod enc prog w base (fun _=>true) held m 3 (List.take (prog.cellsOf 3) (List.drop 1 [a,b,c,d]))=some y1:=h1;rw[k3]at h1;have h2:DataW.trod enc prog w base (fun _=>true) held m 3 (List.take (prog.cellsOf 3) (List.drop 2 [a,b,c,d]))=some y2:=h2;rw[k3]at h2;have h3:DataW.trod enc prog w base (fun _=>true) held m 3 (List.take (prog.cellsOf 3) (List.drop 3 [a,b,c,d]))=some y3:=h3;rw[k3]at h3;obtain⟨s,rfl,hs⟩:=qnv (c:=a) h0;obtain⟨i1,rfl⟩:=QX (c:=b) h1;obtain⟨i2,rfl⟩:=QX (c:=c) h2;obtain⟨i3,rfl⟩:=QX (c:=d) h3;refine⟨⟨s.data.toList,i1,i2,i3⟩,?_,hs⟩;simp only[qD,qh];exact⟨_,_,rfl,qcx,_,_,rfl,by simp[qg],_,_,rfl,by simp[qg],_,_,rfl,by simp[qg],rfl⟩
def qkV{n:Nat}{cs:List Value}{x:DataW H×List MemPlace}(h:DataW.trod enc prog w base (fun _=>true) held n 123 cs=some x):∃v:Weight,qh (KMw w) (qC v) cs/\True:=by
 obtain⟨m,rfl,hl,hf⟩:=JK underlying123 h;rw[qxp]at hl
 match cs,hl with
 | [a,b,c,d],_=>
  obtain⟨y0,h0⟩:=hf 0 _ rfl;obtain⟨y1,h1⟩:=hf 1 _ rfl;obtain⟨y2,h2⟩:=hf 2 _ rfl;obtain⟨y3,h3⟩:=hf 3 _ rfl;have h0:DataW.trod enc prog w base (fun _=>true) held m 3 (List.take (prog.cellsOf 3) (List.drop 0 [a,b,c,d]))=some y0:=h0;rw[k3]at h0;have h1:DataW.trod enc prog w base (fun _=>true) held m 3 (List.take (prog.cellsOf 3) (List.drop 1 [a,b,c,d]))=some y1:=h1;rw[k3]at h1;have h2:DataW.trod enc prog w base (fun _=>true) held m 3 (List.take (prog.cellsOf 3) (List.drop 2 [a,b,c,d]))=some y2:=h2;rw[k3]at h2;have h3:DataW.trod enc prog w base (fun _=>true) held m 4 (List.take (prog.cellsOf 4) (List.drop 3 [a,b,c,d]))=some y3:=h3;rw[k4]at h3;obtain⟨i0,rfl⟩:=QX (c:=a) h0;obtain⟨i1,rfl⟩:=QX (c:=b) h1;obtain⟨i2,rfl⟩:=QX (c:=c) h2;obtain⟨i3,rfl⟩:=qpd (c:=d) h3;refine⟨⟨i0,i1,i2,i3⟩,?_,trivial⟩;simp[qh,qg]
def qse{n:Nat}{cs:List Value}{x:DataW H×List MemPlace}(h:DataW.trod enc prog w base (fun _=>true) held n 116 cs=some x):∃v:Dist,qh (KMw w) (zF v) cs/\Fits v.weights:=by
 obtain⟨m,rfl,hl,hf⟩:=JK underlying116 h;rw[k77]at hl
 match cs,hl with
 | [a,b],_=>
  obtain⟨y0,h0⟩:=hf 0 _ rfl;obtain⟨y1,h1⟩:=hf 1 _ rfl;have h0:DataW.trod enc prog w base (fun _=>true) held m 3 (List.take (prog.cellsOf 3) (List.drop 0 [a,b]))=some y0:=h0;rw[k3]at h0;have h1:DataW.trod enc prog w base (fun _=>true) held m 114 (List.take (prog.cellsOf 114) (List.drop 1 [a,b]))=some y1:=h1;rw[k75]at h1;obtain⟨i0,rfl⟩:=QX (c:=a) h0;have h1':DataW.trod enc prog w base (fun _=>true) held m 114 [b]=some y1:=h1
  cases m with
  |zero=>simp[DataW.trod]at h1'
  | succ m=>
   obtain⟨l,v,e,hv,hfl,_⟩:=wJ (en:=qC) (good:=fun _=>True) underlying114 qxp (by omega) (fun y=>by simp[AV.atom]) (fun cs x h=>qkV h) h1';cases e;refine⟨⟨i0,l⟩,?_,hfl⟩;simp only[zF,qh,qg];exact⟨_,_,rfl,rfl,_,[],rfl,by simpa only[qg] using hv,rfl⟩
def qwZ{n:Nat}{cs:List Value}{x:DataW H×List MemPlace}(h:DataW.trod enc prog w base (fun _=>true) held n 35 cs=some x):∃l:List Int,qh (KMw w) (zJ l) cs/\Fits l:=by
 cases n with
 |zero=>simp[DataW.trod]at h
 | succ m=>
  obtain⟨l,v,rfl,hv,hfl,_⟩:=wJ (en:=qq) (good:=fun _=>True) underlying35 k3 (by omega) (fun y=>by simp[AV.atom]) (fun cs x h=>by
   obtain⟨i,e,_⟩:=DataW.trod_int underlying3 h;exact⟨i,by rw[e];simp[qh,qg],trivial⟩) h
  refine⟨l,?_,hfl⟩;simp only[zJ,qh];exact⟨v,[],rfl,hv,rfl⟩
def rdE:∀(N n:Nat),n<=N->∀{cs:List Value}{x:DataW H×List MemPlace},DataW.trod enc prog w base (fun _=>true) held n 71 cs=some x->∃e:Ex,qh (KMw w) (qt e) cs/\Wen e:=by
 intro N
 induction N with
 | zero=>
  intro n hn cs x h;have:n=0:=by omega
  subst this;simp[DataW.trod]at h
 | succ N ih=>
  intro n hn cs x h;obtain⟨m,rfl,hl,hf⟩:=JK underlying71 h;rw[k57]at hl
  match cs,hl with
  | [a,b,c,d],_=>
   obtain⟨y0,h0⟩:=hf 0 _ rfl;obtain⟨y1,h1⟩:=hf 1 _ rfl;obtain⟨y2,h2⟩:=hf 2 _ rfl;obtain⟨y3,h3⟩:=hf 3 _ rfl;have h0:DataW.trod enc prog w base (fun _=>true) held m 3 (List.take (prog.cellsOf 3) (List.drop 0 [a,b,c,d]))=some y0:=h0;rw[k3]at h0;have h1:DataW.trod enc prog w base (fun _=>true) held m 3 (List.take (prog.cellsOf 3) (List.drop 1 [a,b,c,d]))=some y1:=h1;rw[k3]at h1;have h2:DataW.trod enc prog w base (fun _=>true) held m 9 (List.take (prog.cellsOf 9) (List.drop 2 [a,b,c,d]))=some y2:=h2;rw[k9]at h2;have h3:DataW.trod enc prog w base (fun _=>true) held m 23 (List.take (prog.cellsOf 23) (List.drop 3 [a,b,c,d]))=some y3:=h3;rw[k23]at h3;obtain⟨i0,rfl⟩:=QX (c:=a) h0;obtain⟨i1,rfl⟩:=QX (c:=b) h1;obtain⟨s,rfl,hs⟩:=qnv (c:=c) h2;have h3':DataW.trod enc prog w base (fun _=>true) held m 23 [d]=some y3:=h3
   cases m with
   |zero=>simp[DataW.trod]at h3'
   | succ m=>
    obtain⟨l,v,e,hv,hfl,hg⟩:=wJ (en:=qt) (good:=Wen) underlying23 k57 (by omega) (fun y=>by rw[qd];simp[AV.atom]) (fun cs x h=>ih m (by omega) h) h3';cases e;refine⟨.mk i0 i1 s.data.toList l,?_,?_⟩
    . rw[qd];simp only[qh,qCH,Ex.n_mk,qCI,qCJ];exact⟨_,_,rfl,by simp[qg],_,_,rfl,by simp[qg],_,_,rfl,qcx,_,[],rfl,hv,rfl⟩
    intro y hy;rw[ju]at hy;rcases qy9.1 hy with rfl|hy
    . exact⟨hfl,hs⟩
    obtain⟨a,ha,hya⟩:=Q6.1 hy;exact hg a ha y hya
def b3:prog.bytesOf 3=8:=by kernel_rfl
def qrH{P:Program}{e:TypeId}:∀{E:List (DataW H)}{d:DataW H},d∈E->∀k∈d.weights P e,k∈DataW.weightsAll P e E
 |[],_,h,_,_=>nomatch h
 | a::r,d,h,k,hk=>by
  simp only[DataW.weightsAll,qy0];rcases qy9.1 h with rfl|h
  . exact .inl hk
  exact .inr (qrH h k hk)
def qkW{n:Nat}{cs:List Value}{x:DataW H×List MemPlace}(h:DataW.trod enc prog w base (fun _=>true) held (n+1) 25 cs=some x)(hw:∀k∈x.1.weights prog 25,k<=reachBytes):
 ∃(l:List (List Int)) (v:Value),cs=[v]/\qg (KMw w) (.sl 1 (l.map zJ) .none) v/\Fits l/\∀y∈l,Fits y/\y.length<17592186044416:=by
 obtain⟨l,v,h1,h2,h3,h4,_⟩:=Yq (en:=zJ) (good:=fun g=>Fits g/\g.length<17592186044416) (X:=fun d=>∀k∈d.weights prog 35,k<=reachBytes) underlying25 k37 (by omega) (fun y=>by simp[AV.atom]) (fun cs x h hx=>by
  cases n with
  |zero=>simp[DataW.trod]at h
  | succ m=>
   obtain⟨l,v,rfl,hv,hfl,_,hN⟩:=Yq (en:=qq) (good:=fun _=>True) (X:=fun _=>True) underlying35 k3 (by omega) (fun y=>by simp[AV.atom]) (fun cs x h _=>by
    obtain⟨i,e,_⟩:=DataW.trod_int underlying3 h;exact⟨i,by rw[e];simp[qh,qg],trivial⟩) h (fun _ _ _ _ _=>trivial)
   refine⟨l,?_,hfl,?_⟩
   . simp only[zJ,qh];exact⟨v,[],rfl,hv,rfl⟩
   have:=hN 17592186044415 fun E S e=>by
    have:=hx ((E.length+S.length)*prog.bytesOf 3) (by rw[e];simp only[DataW.weights,underlying35];exact qAu);rw[b3]at this;simp only[reachBytes]at this;omega
   omega) h (fun E S e d hd k hk=>hw k (by
    rw[e];simp only[DataW.weights,underlying25];exact qAk _ (qzM _ (qrH hd k hk))))
 exact⟨l,v,h1,h2,h3,h4⟩
def rdP{n:Nat}{cs:List Value}{x:DataW H×List MemPlace}(h:DataW.trod enc prog w base (fun _=>true) held n 27 cs=some x)(hw:∀k∈x.1.weights prog 27,k<=reachBytes):∃p:Problem,qh (KMw w) (qA p) cs/\VM p:=by
 have hx:∀y4,(∃xs:List (DataW H×List MemPlace),x.1=.agg (xs.map (·.1))/\xs.length=5/\xs[4]?=some y4)->∀k∈y4.1.weights prog 25,k<=reachBytes:=by
  rintro y4 ⟨xs,e,hl,h4⟩ k hk;refine hw k ?_;rw[e]
  match xs,hl with
  | [a,b,c,d,e],_=>
   simp at h4;subst h4;simp only[DataW.weights,underlying27,qyR,qzj,DataW.weightsEach,qy0];exact .inr (.inr (.inr (.inr (.inl hk))))
 obtain⟨m,rfl,hl,hf,hy⟩:=qhE underlying27 h;rw[k27]at hl
 match cs,hl with
 | [a,b,c,d,e],_=>
  obtain⟨y0,h0⟩:=hf 0 _ rfl;obtain⟨y1,h1⟩:=hf 1 _ rfl;obtain⟨y2,h2⟩:=hf 2 _ rfl;obtain⟨y3,h3⟩:=hf 3 _ rfl;obtain⟨y4,h4⟩:=hf 4 _ rfl;have h4w:=hx y4 (hy 4 _ rfl y4 h4);have h0:DataW.trod enc prog w base (fun _=>true) held m 22 (List.take (prog.cellsOf 22) (List.drop 0 [a,b,c,d,e]))=some y0:=h0;rw[k22]at h0;have h1:DataW.trod enc prog w base (fun _=>true) held m 23 (List.take (prog.cellsOf 23) (List.drop 1 [a,b,c,d,e]))=some y1:=h1;rw[k23]at h1;have h2:DataW.trod enc prog w base (fun _=>true) held m 23 (List.take (prog.cellsOf 23) (List.drop 2 [a,b,c,d,e]))=some y2:=h2;rw[k23]at h2;have h3:DataW.trod enc prog w base (fun _=>true) held m 24 (List.take (prog.cellsOf 24) (List.drop 3 [a,b,c,d,e]))=some y3:=h3;rw[k24]at h3;have h4:DataW.trod enc prog w base (fun _=>true) held m 25 (List.take (prog.cellsOf 25) (List.drop 4 [a,b,c,d,e]))=some y4:=h4;rw[k25]at h4;have h0':DataW.trod enc prog w base (fun _=>true) held m 22 [a]=some y0:=h0;have h1':DataW.trod enc prog w base (fun _=>true) held m 23 [b]=some y1:=h1;have h2':DataW.trod enc prog w base (fun _=>true) held m 23 [c]=some y2:=h2;have h3':DataW.trod enc prog w base (fun _=>true) held m 24 [d]=some y3:=h3;have h4':DataW.trod enc prog w base (fun _=>true) held m 25 [e]=some y4:=h4
  cases m with
  |zero=>simp[DataW.trod]at h0'
  | succ m=>
   obtain⟨l0,v0,e0,r0,f0,g0⟩:=wJ (en:=qD) (good:=fun v=>Fits v.name) underlying22 k50 (by omega) (fun y=>by simp[AV.atom]) (fun cs x h=>qvE h) h0';obtain⟨l1,v1,e1,r1,f1,g1⟩:=wJ (en:=qt) (good:=Wen) underlying23 k57 (by omega) (fun y=>by rw[qd];simp[AV.atom]) (fun cs x h=>rdE m m (qyQ _) h) h1';obtain⟨l2,v2,e2,r2,f2,g2⟩:=wJ (en:=qt) (good:=Wen) underlying23 k57 (by omega) (fun y=>by rw[qd];simp[AV.atom]) (fun cs x h=>rdE m m (qyQ _) h) h2';obtain⟨l3,v3,e3,r3,f3,g3⟩:=wJ (en:=zF) (good:=fun d=>Fits d.weights) underlying24 k77 (by omega) (fun y=>by simp[AV.atom]) (fun cs x h=>qse h) h3';obtain⟨l4,v4,e4,r4,f4,g4⟩:=qkW h4' h4w;cases e0;cases e1;cases e2;cases e3;cases e4;refine⟨⟨l0,l1,l2,l3,l4⟩,?_,⟨⟨g0,fun e he=>?_,f3,g3,f4,fun g hg=>(g4 g hg).1⟩,f0,f1,f2,fun g hg=>(g4 g hg).2⟩⟩
   . simp only[qA,qh];exact⟨_,_,rfl,r0,_,_,rfl,r1,_,_,rfl,r2,_,_,rfl,r3,_,_,rfl,r4,rfl⟩
   rcases qy0.1 he with he|he
   . exact g1 e he
   exact g2 e he
end
def qpp:ownKnob prog.godebug=none:=by kernel_rfl
def qcU:laidOutB prog=true:=by kernel_rfl
def qwt:prog.globalNamed "testbench/lexer.keywords" = some 2:=by kernel_rfl
def qvu:(prog.globals[2]?).map (·.type)=some 168:=by kernel_rfl
/-- A list of texts that reads as a known one. -/
def qpc{H:Type}{enc:TypeId×Value->H}{w:World}{base:Nat}{held:Bool}{n:Nat}{cs:List Value}{p:List MemPlace}{K:List Str}
 (h:DataW.trod enc prog w base (fun _=>true) held n 168 cs=some (.slice (K.map fun k=>.lit (.string k)) [],p)) (hK:K≠[]):
 ∃v,cs=[v]/\qg (KMw w) (.sl 1 (K.map z8) .none) v:=by
 have hs:∀(m:Nat) (cs:List Value) (x:DataW H×List MemPlace),DataW.trod enc prog w base (fun _=>true) held m 9 cs=some x->∃k:Str,qh (KMw w) (z8 k) cs/\x.1=.lit (.string k):=by
  intro m cs x h;obtain⟨s,rfl,rfl,_⟩:=DataW.trod_string underlying9 h;refine⟨s.data.toList,?_,rfl⟩;simp only[z8,qh];exact⟨_,[],rfl,qcx,rfl⟩
 rcases DataW.trod_slice underlying168 h with⟨_,e⟩|⟨a,len,cap,elems,rest,m,hm,rfl,e,hb,hl,hc,hlen,hel',hsp,_⟩
 . simp at e
 simp only[qyW,DataW.slice.injEq]at e;obtain⟨⟨e1,e2⟩,_⟩:=e;have hlK:len=K.length:=by rw[<- hlen];have:=congrArg List.length e1;simpa using this.symm
 have hK0:0<K.length:=qyZ.2 hK;rw[k9]at hel';have one:∀i (hi:i<K.length),∃cs',w.cells? base (a.add (i*1)) 1=some cs'/\qh (KMw w) (z8 K[i]) cs':=by
  intro i hi;have hh:=hel' i (by omega);rw[qyH (by omega)]at hh;obtain⟨cs',h1,h2⟩:=qz6.1 hh;obtain⟨k,h3,h4⟩:=hs m cs' _ h2;refine⟨cs',h1,?_⟩;have e3:(elems.map (·.1))[i]?=(K.map fun k=>(DataW.lit (.string k):DataW H))[i]?:=by rw[e1]
  rw[qy7,qy7,qyH (by omega),qyH hi]at e3;simp only[qBt,qyU]at e3;rw[h4]at e3;have e4:k=K[i]:=by simpa using e3
  rw[<- e4];exact h3
 have spot:a.spot=none:=by
  obtain⟨cs',h1,_⟩:=one 0 hK0;rw[qAl]at h1;obtain⟨_,hlen',hc'⟩:=World.cells?_some h1;have:=hc' 0 (by omega);rw[qyH (by omega)]at this
  cases hs:a.spot with
  |none=>rfl
  | some s=>
   simp only[Addr.add,if_true]at this;unfold World.cell? at this;rw[hs]at this;split at this<;>simp at this
 obtain⟨b,o,s⟩:=a;simp only at spot;subst spot;refine⟨_,rfl,?_⟩;simp only[qg];refine .inr ⟨b,o,cap,by simp[hlK],by simp;omega,qDf b 1 _ o fun i r e=>?_,trivial⟩;rw[qy7,qyM]at e;obtain⟨k,hk,rfl⟩:=e;obtain⟨hi,hk'⟩:=qyF.1 hk;obtain⟨cs',h1,h2⟩:=one i hi;rw[hk']at h2;obtain⟨_,hlen',hc'⟩:=World.cells?_some h1;obtain⟨g1,g2⟩:=qh.get h2;refine⟨rfl,rfl,qDe b _ _ fun j z hz=>?_⟩;have hj:j=0:=by
  have:=(qyF.1 hz).1;simp at this;exact this
 subst hj;obtain⟨v,hv1,hv2⟩:=g2 0 z hz;refine⟨v,?_,hv2⟩;have:=hc' 0 (by omega);rw[hv1]at this;show w.cell? ⟨b,o+i*1+0,none⟩=some v;rw[<- this];congr 1;simp only[Addr.add,if_true];by_cases hi0:i*1=0
 . rw[if_pos hi0,hi0];simp
 rw[if_neg hi0];simp
abbrev qf4:List (String×DataW Unit):=Rows.randomSumsRow.laid
/-- What the condition gives: the keywords. -/
def qpB{W:World}(h:laidMetH prog qf4 W):qg (KMw W) (.rptr [.sl 1 (qcd.map z8) .none]) (.pointer (some ⟨2,0,none⟩)):=by
 rw[MakeChecks.laidMetH_plain _ _ _ (by kernel_rfl)]at h;obtain⟨ps,⟨g0,t0,cs0,f0,p0,q0,_,_,_,_,⟨g1,t1,cs1,f1,p1,q1,_,_,_,_,⟨g2,t2,cs2,f2,p2,q2,_,_,_,_,⟨g3,t3,cs3,f3,p3,q3,hg,ht,hv,hd,_,_⟩,_⟩,_⟩,_⟩,_,_⟩:=h;obtain rfl:=Option.some.inj (qwt.symm.trans hg);obtain rfl:=Option.some.inj (qvu.symm.trans ht);obtain⟨v,e,hr⟩:=qpc (K:=qcd) hd (by decide);have hcell:W.cell? ⟨2,0,none⟩=some v:=by
  have:=World.var?_cell hg hv 0;rw[Array.eq_one_of_toList e]at this;simpa using this
 have hgoal:qg (KMw W) (.rptr [.sl 1 (qcd.map z8) .none]) (.pointer (some ⟨2,0,none⟩)):=by
  unfold qg;refine⟨2,0,rfl,?_⟩;unfold qm;exact⟨⟨v,hcell,hr⟩,by unfold qm;trivial⟩
 exact hgoal
def qmy(os:Os)(args:Array Value):laidMetH prog qf4 ((World.doorLaid prog 400 os).forCall (fun _ _=>0) ⟨#[],args,[]⟩).memory :=
 laidMetH_of_parts3 (fuel:=8) (laidMet_of_run' 8 (by kernel_rfl) (by kernel_rfl)) (by kernel_rfl) (by kernel_rfl)
def qiE{W:World}(hL:laidMetH prog qf4 W):∀g,qg (KMw W) (GG g) (.pointer (some ⟨g,0,none⟩)):=by
 intro g;by_cases hg:g=2
 . subst hg;exact qpB hL
 have e:GG g=.any:=by
  unfold GG;split
  . exact absurd rfl hg
  rfl
 rw[e];simp only[qg]
def qkg{α:Type}(sz:Nat)(en:α->List AV)(s:List α):AV:=match s with
 |[]=>.sl 0 [] .nil
 |a::r=>.sl sz ((a::r).map en) (.chain 0 (r.length+1))
def qlt{α:Type}(s:List α):List (Option Nat):=match s with
 |[]=>[]
 |_::r=>[some (r.length+1)]
def qlw{α:Type}{sz}{en:α->List AV}(s:List α)(H)(hn:∀x,qx (en x)=true):zb (fin H (qkg sz en s))=true/\Leq (fin H (qkg sz en s)) (.sl sz (s.map en) .none):=by
 cases s with
 |nil=>simp[qkg,Leq]
 | cons a r=>
  have h:=zx hn (a::r);refine⟨?_,Leq.sl rfl⟩;simpa[qkg] using h
def qwI(p a)(hl:p.vars.length<=1000)(ha:Fits a):Pure prog GG 59 [.agg (qA p),.sl 1 (a.map qq) .none] (.sl 2 ((ki p.vars a).map qV) .none):=by
 refine qDb qe func59 rfl (by kernel_rfl) ?_;by_cases hlen:a.length=p.vars.length
 . rw[ZP,if_pos hlen];have hE:=yz hlen;simp[hlen];refine qC9 (fun n ev U=>∃i tl,i<=p.vars.length/\n=p.vars.length-i/\ev 1=.sl 1 (a.map qq) .none/\ev 5=qkg 2 qV ((ve p.vars a).take i)/\ev 15=.sl 4 (p.vars.map qD) .none/\ev 16=.int .i64 p.vars.length/\ev 17=.int .i64 i/\U=⟨tl,qlt ((ve p.vars a).take i)⟩) p.vars.length ⟨0,_,by simp,by simp,by simp,by simp[qkg],by simp,by simp,by simp,by simp[qlt];rfl⟩ ?_;rintro n ev U ⟨i,tl,hi,rfl,h1,h5,h15,h16,h17,rfl⟩
   cases hv:p.vars[i]? with
   | some v=>
    obtain⟨hc,hv'⟩:=qyF.1 hv;have hca:i<a.length:=(by omega);obtain⟨x,hx⟩:∃x,a[i]?=some x:=⟨_,qyH hca⟩;have hx':=(qyF.1 hx).2;have ht:(ve p.vars a).take (i+1)=(ve p.vars a).take i++[⟨v.name,x⟩]:=by
     rw[qzb,Qc hv hx];rfl
    have hRl:((ve p.vars a).take i).length<=1000:=(by simp;omega);generalize hR:(ve p.vars a).take i=R at h5 ht hRl⊢
    cases R with
    | nil=>
     simp only[qkg]at h5;simp[h1,h5,h15,h16,h17,hc,hca,hv',hx',qzi,qlt,zp,zS,qG,qL,qj,qs,zK,zj];exact⟨_,by omega,i+1,by omega,rfl,by rw[ht];simp[qkg],wr (by omega) (by omega),by rw[ht];simp⟩
    | cons b r=>
     simp only[qkg]at h5;simp[h1,h5,h15,h16,h17,hc,hca,hv',hx',qzi,qlt,zp,zS,qG,qL,qj,qs,zK,zj,show r.length<=549755813886 by simp at hRl;omega];exact⟨_,by omega,i+1,by omega,rfl,by rw[ht];simp[qkg],wr (by omega) (by omega),by rw[ht];simp⟩
   | none=>
    have hc:¬i<p.vars.length:=(by simp at hv;omega);rw[qyN (by omega)]at h5⊢;have he:=qlw (sz:=2) (en:=qV) (ve p.vars a) tl (fun x=>by simp);simp[h5,h15,h16,h17,hc];exact he
 rw[ZP,if_neg hlen];simp[show ¬(a.length:Int)=p.vars.length by omega,Leq]
def qcP(vs:List Var)(a:List Int):List Int×Bool:=if(qH vs a).2=true then([],false) else((qH vs a).1,true)
def qxU(p:Problem)(a:List Int)(m:Nat)(ev:Env)(U:St):Prop :=
 ev 2=.ptr 0 0/\ev 6=.ms 1 0 a.length 1/\ev 7=.int .i64 ((m:Int)-1)/\m<=a.length/\(qH (p.vars.drop m) (a.drop m)).2=true/\∃T,U=⟨[.cells (qA p),.cells (zw (a.take m++(qH (p.vars.drop m) (a.drop m)).1))],T⟩
def qkJ(vs d)(h:d.weights=[]):JH vs d=jL 0:=by
 unfold JH;split
 . rename_i v _;have:qca v d.weights=[]:=by
    unfold qca;rw[h];have:(qaZ [])=fun _=>false:=by funext n;rfl
    rw[this];simp
   rw[this];rfl
 rfl
def qo7(vs l a)(h:jL 0∈l):j9 vs l a=false:=by
 have h0:yu (ki vs a) (jL 0)=0:=by
  unfold yu;split
  . rw[yH];simp[jL,QB,Ex.op,Ex.n]
  rfl
 unfold j9;rw[qB4];exact⟨_,h,by simp[h0]⟩
def Qy{p}(h:VQ p)(hd:p.dists.length<=10000)(hs5:p.soft.length<=10000)(he:(ql p).2=0):
 qk p=0/\(∀e∈(ql p).1,zi p.vars e=0/\J1 e)/\(ql p).1.length<=50000/\∀d∈p.dists,d.weights≠[]:=by
 obtain⟨hv,hsat,hR,_⟩:=QV (by rwa[<- vW]);have hnk:=Q4 h hv;have hsl:yg p=w9 p:=by unfold yg;rw[if_pos hv]
 rw[hR];refine⟨hv,fun e hm=>?_,?_,fun d hdm hw=>?_⟩
 . have hmm:e∈zI p++p.soft:=by
    rcases qy0.1 hm with hm|hm
    . exact qy0.2 (.inl hm)
    obtain⟨q,hq,rfl⟩:=qza.1 hm;obtain⟨k,_,hk⟩:=qip hq;exact qy0.2 (.inr (qyG hk))
   have:=hnk e hmm;exact⟨by simpa[vG] using this.1,this.2⟩
 . have h1:=qeo p;have h2:=h.hard;have h3:(w9 p).length=p.dists.length:=(by simp[w9]);simp only[qyK,qzk,zI,hsl];omega
 have hin:jL 0∈zI p:=by
  unfold zI;rw[hsl];exact qy0.2 (.inr (qza.2 ⟨d,hdm,qkJ _ _ hw⟩))
 unfold jT at hsat;obtain⟨a,_,ha⟩:=qy8.1 hsat;rw[qo7 _ _ _ hin]at ha;cases ha
def qpk:List (Nat×Sch×List Nat):=[(4,.step 1 [8,7,6] (.step 2 [8,7,6,5,3] (.step 3 [8,7,6,5] (.step 4 [8,7,6,5] (.fork (.cons 0 (.step 5 [8,7,6] (.step 6 [8,7] (.step 7 [8] (.step 8 [] (.done))))) (.cons 5 (.step 0 [8,7,6] (.step 6 [8,7] (.step 7 [8] (.step 8 [] (.done))))) (.nil))))))),[5])]
def OpQ(p:Problem)(H:List Blk)(r:AV)(U':St):Prop :=
 KpL [] H U'.H/\(((ql p).2≠0/\r=.tup [.nilp,.int .i64 (ql p).2]) \/
  ((ql p).2=0/\∃s d,r=.tup [.ptr s.S 0,.int .i64 0]/\H.length<=s.S/\H.length<=s.L/\H.length<=s.LL/\s.p=p/\s.R=(ql p).1/\SpOk s U'.H/\SpV s d /\
    (s.small=true->∀b,evD d b s.root=j9 p.vars (ql p).1 (Qd p.vars (qE p) b))))
def qea(p)(h:VQ p)(hv20:p.vars.length<=20)(hb:ku p.vars (qB p)<=18)(hd:p.dists.length<=10000)(hs5:p.soft.length<=10000)(hws:∀d∈p.dists,d.weights.length<=1000)(H T):
 qf prog GG 17 [.agg (qA p)] ⟨H,T⟩ (OpQ p H):=by
 refine qCM ⟨false,qpk,[],[]⟩ qe func17 rfl (by kernel_rfl) ?_;by_cases he:(ql p).2=0
 case neg=>
  have hr:=qdr p h hv20 hb hd hs5;simp;refine qCO hr (by simp) ?_;have hq:∀u T',OpQ p H (.tup [.nilp,.int .i64 (ql p).2]) ⟨H++u,T'⟩:=fun u T'=>⟨qDj,.inl ⟨he,rfl⟩⟩
  generalize (ql p).2=er at *;simp[he];exact hq _ _
 case pos=>
  obtain⟨hv,hk,hl,hwn⟩:=Qy h hd hs5 he;have hlv:=qb9 p h hv;simp;refine qCQ (qnd p h hv20 hb hd hs5 he _ _) ?_;rintro r ⟨H1,T1⟩ ⟨tok,rfl,htok,hk1⟩;have bx:=hk1.2 _ _ lk0 (by simp);have hlen1:=hk1.1;simp only[qyK,qyY,qzH]at hlen1;obtain⟨R,hR⟩:∃R,R=(ql p).1:=⟨_,rfl⟩;rw[<- hR]at htok hk hl⊢;simp;rw[qJ rfl];simp only[qA]at hlv;simp[qX,bx];refine qCO hlv (by simp) ?_;simp[qX,bx];have hwg:=qkq p h hv H1 T1;simp only[qA]at hwg;refine⟨qCQ hwg ?_,qCQ hwg ?_⟩
  all_goals
   rintro r ⟨H2,T2⟩ ⟨hk2,L,LL,rfl,hL1,hL2,hwf⟩;have bx2:=hk2.2 _ _ bx (by simp);have hkH2:=(qDj.trans hk1).trans hk2;have hLlt:L<H2.length:=(by obtain⟨c,hc,_⟩:=hwf;exact(qyF.1 hc).1);obtain⟨LL',hLL',hLL1,hwf'⟩:∃LL',LL'<H2.length/\H.length<=LL'/\WFn p L LL' H2:=by
    obtain⟨c,hc,hc2⟩:=hwf;by_cases hpv:p.vars=[]
    . exact⟨L,hLlt,by omega,c,hc,fun hn=>absurd hpv hn⟩
    exact⟨LL,(qyF.1 (hc2 hpv).2).1,by omega,c,hc,hc2⟩
   simp[qX,bx2,qa bx2,zp,zS,qG];refine qCQ ((qtO p h hv R (by omega) hk _ _).leq (by simp[qA])) ?_;rintro r ⟨H3,T3⟩ ⟨hk3,hr⟩;dsimp only at hk3;have bS:=hk3.2 _ _ lk0 (by simp);have hSl:=(qyF.1 bS).1;have hkH3:KpL [] H H3:=hkH2.trans (qDj.trans hk3);have hwf3:WFn p L LL' H3:=by
    obtain⟨c,hL,hc⟩:=hwf';have hk':=qDj.trans hk3;exact⟨c,hk'.2 _ _ hL (by simp),fun hn=>⟨(hc hn).1,hk'.2 _ _ (hc hn).2 (by simp)⟩⟩
   have hws':∀(i:Nat) (w:List Weight),(jd p.vars.length p.dists)[i]?=some (some w)->w≠[]/\w.length<=1000:=fun i w hi=>by
    obtain⟨d,hd,rfl⟩:=qf3 (qyG hi);exact⟨hwn d hd,hws d hd⟩
   have fin:∀(dv:AV) (root:Nat) (small:Bool) (d:List Nd) (T':List (Option Nat)),(small=true->DagOk d/\(∃tok,dv=.sl 3 (d.map qw) tok)/\root<d.length)->(small=true->∀b,evD d b root=j9 p.vars R (Qd p.vars (qE p) b)) ->
    OpQ p H (.tup [.ptr H2.length 0,.int .i64 0]) ⟨H3.set H2.length (.cells (qA p++[.sl 4 (R.map qt) tok,.sl 1 ((qE p).map qq) .none,dv,.int .i64 root,.bool small,.fn 76 [] [.ptr L 0]])),T'⟩:=by
    intro dv root small d T' hdag hroot;refine⟨hkH3.setF (by have:=hkH2.1;omega),.inr ⟨he,⟨H2.length,L,LL',p,R,tok,qE p,dv,root,small⟩,d,rfl,hkH2.1,by dsimp only;omega,hLL1,rfl,hR,⟨?_,?_,?_⟩,⟨h,hv,hv20,hb,hk,hl,htok,rfl,hdag,hws'⟩,by rw[<- hR];exact hroot⟩⟩
    . exact qyL hSl
    . obtain⟨c,hL,hc⟩:=hwf3;exact⟨c,by dsimp only;rw[qyI (by omega)];exact hL,fun hn=>⟨(hc hn).1,by dsimp only;rw[qyI (by omega)];exact(hc hn).2⟩⟩
    dsimp only;rw[qzZ];omega
   rcases hr with rfl|⟨d,t,tk,rfl,hdk,ht,hev⟩
   . simp[-getElem?_pos,bS,hSl];exact fin (.sl 0 [] .nil) 0 false [] T3 (by simp) (by simp)
   simp[-getElem?_pos,bS,hSl];exact fin (.sl 3 (d.map qw) tk) t true d T3 (fun _=>⟨hdk,⟨tk,rfl⟩,ht⟩) (fun _=>hev)
def yy:∀{vs:List Var}{a:List Int},okA vs a->∀{i:Nat}{v:Var},vs[i]?=some v->∃x,a[i]?=some x/\(if v.mode=0 then x=v.value else 0<=x/\x<(z7 v:Nat))
 |[],_,_,i,v,hv=>by simp at hv
 |w::vs,[],h,i,v,hv=>h.elim
 | w::vs,y::a,h,0,v,hv=>by
  simp at hv;subst hv;exact⟨y,rfl,h.1⟩
 | w::vs,y::a,h,i+1,v,hv=>by
  obtain⟨x,h1,h2⟩:=yy (vs:=vs) (a:=a) h.2 (i:=i) (v:=v) (by simpa using hv);exact⟨x,by simpa using h1,h2⟩
def eqP(p:Problem)(q:Nat×Nat):Ex:=eqE (Jz p q.1) (q.2:Int)
def qtb{p}(hv:qk p=0){a}(ha:a∈jF p.vars){i v}(hi:p.vars[i]?=some v){n}(hn:n<=65535):
 decide (yu (ki p.vars a) (eqP p (i,n))≠0)=decide (a[i]?=some (n:Int)):=by
 have hok:=kl.1 ha;obtain⟨x,hx,hxr⟩:=yy hok hi;have hm:=qyG hi;have hve:=zc (ji hv v hm);have hvv:=WP (ji hv v hm);have hx2:0<=x/\x<=65535:=by
  split at hxr
  . omega
  have h3:2^v.width.toNat<=2^8:=qzc (by omega) (by omega);unfold z7 at hxr;omega
 have hf:=vL (ym hv) hi hx;rw[QN hx2.1 hx2.2]at hf;have hen:ki p.vars a=(p.vars.zip a).map fun q=>⟨q.1.name,q.2⟩:=by unfold ki;rw[if_pos hok.len]
 have ho:=qn5 hve.1 (n:=(n:Int)) (by omega) (by omega);have hex:=ho.valid (by omega) (by omega) (by unfold vK;rw[qy8];exact⟨v,hm,by simp⟩);have hval:ze (eqE v.name (n:Int))=0:=by
  by_cases h0:ze (eqE v.name (n:Int))=0
  . exact h0
  unfold zi at hex;rw[if_pos h0]at hex;exact absurd hex h0
 have hkn:wy (ki p.vars a) (eqE v.name (n:Int))=true:=by
  unfold wy;rw[qcH,hen];simp[qru,eqE,wY,jL,Ex.op,Ex.name,hf]
 have hev:yu (ki p.vars a) (eqE v.name (n:Int))=b2i (decide (x=(n:Int))):=by
  unfold yu;rw[if_pos ⟨hval,hkn⟩,yH,hen];simp[eqE,wY,jL,Ex.op,Ex.name,Ex.args,Ex.n,QB,yH,hf,opW,yK,b2i]
 show decide (yu _ (eqE (Jz p i) (n:Int))≠0)=_;rw[show Jz p i=v.name by simp[Jz,hi],hev,hx];by_cases hxn:x=(n:Int)<;>simp[b2i,hxn]
noncomputable def okC(p:Problem)(R:List Ex)(c:List (Nat×Nat)):Bool:=(jF p.vars).any fun a=>j9 p.vars R a&&c.all fun q=>decide (a[q.1]?=some (q.2:Int))
noncomputable def V6(p:Problem)(R:List Ex)(fx:Nat->Option Nat):List Nat->List (Nat×Nat)->Nat
 |[],c=>if okC p R c=true then 1 else 0
 |i::r,c=>if okC p R c=true then(vo (jp p i) (fx i)).foldl (fun s v=>sat (s+sat (wtP p i v*V6 p R fx r (c++[(i,v)])))) 0 else 0
def qnf(p:Problem)(c:List (Nat×Nat)):Prop:=∀q∈c,(∃v,p.vars[q.1]?=some v/\v.mode≠0)/\q.2<2^jp p q.1
def qoC{p}(hv:qk p=0){i v}(hi:p.vars[i]?=some v):jp p i=v.width.toNat/\v.width.toNat<=8:=by
 have hve:=zc (ji hv v (qyG hi));exact⟨by unfold jp zE;rw[hi],by omega⟩
def qnf.lt{p}(hv:qk p=0){c}(h:qnf p c){q}(hq:q∈c):q.2<=65535:=by
 obtain⟨⟨v,hi,_⟩,hlt⟩:=h q hq;obtain⟨h1,h2⟩:=qoC hv hi;rw[h1]at hlt;have h3:2^v.width.toNat<=2^8:=qzc (by omega) (by omega);omega
def qdS{p}(hv:qk p=0)(R){c}(hc:qnf p c):jT p.vars (R++c.map (eqP p))=okC p R c:=by
 unfold jT okC;apply qzz.2;simp only[qy8];have key:∀a∈jF p.vars,j9 p.vars (R++c.map (eqP p)) a=(j9 p.vars R a&&c.all fun q=>decide (a[q.1]?=some (q.2:Int))):=fun a ha=>by
  unfold j9;rw[qAa,qCc];congr 1;apply qzz.2;simp only[qyP];refine forall_congr' fun q=>forall_congr' fun hq=>?_
  obtain⟨⟨v,hi,_⟩,_⟩:=hc q hq;have:=qtb hv ha hi (hc.lt hv hq);simp only[Function.comp];rw[<- this]
 constructor
 . rintro⟨a,ha,h⟩;exact⟨a,ha,by rw[<- key a ha];exact h⟩
 rintro⟨a,ha,h⟩;exact⟨a,ha,by rw[key a ha];exact h⟩
def qkl(p:Problem)(fx:Nat->Option Nat):Prop:=∀i x,fx i=some x->x<2^jp p i
def qgY{p fx}(hf:qkl p fx){i v}(h:v∈vo (jp p i) (fx i)):v<2^jp p i:=by
 unfold vo at h;split at h
 . exact qzP.1 h
 rename_i x hx;have:=qzh.1 h;subst this;exact hf i _ hx
def kg{α:Type}{f g:Nat->α->Nat}:∀{l:List α}{s:Nat},(∀s,∀v∈l,f s v=g s v)->l.foldl f s=l.foldl g s
 |[],s,h=>rfl
 | a::r,s,h=>by
  rw[qzm,qzm,h s a (by simp)];exact kg fun s v hv=>h s v (by simp[hv])
def qhi{p}(hv:qk p=0)(R){fx}(hf:qkl p fx):∀(g) (c),(∀i∈g,∃v,p.vars[i]?=some v/\v.mode≠0)->qnf p c ->
 qcw p fx g (R++c.map (eqP p))=V6 p R fx g c:=by
 intro g
 induction g with
 |nil=>intro c _ hc;unfold qcw V6;rw[qdS hv R hc]
 | cons i r ih=>
  intro c hg hc;unfold qcw V6;rw[qdS hv R hc];split
  . refine kg fun s v hvm=>?_
    have hc':qnf p (c++[(i,v)]):=fun q hq=>by
     rcases qy0.1 hq with hq|hq
     . exact hc q hq
     have:=qzh.1 hq;subst this;exact⟨hg i (by simp),qgY hf hvm⟩
    have:=ih (c++[(i,v)]) (fun j hj=>hg j (by simp[hj])) hc';rw[qzE,<- qze]at this;rw[<- this];rfl
  rfl
def LW(p:Problem)(l:List Nat):Nat:=(l.map (jp p)).sum
def qe1(p l m):LW p (l++m)=LW p l+LW p m:=by simp[LW]
def V4{p}(hv:qk p=0):∀l:List Nat,yN p.vars (l.map fun n:Nat=>(n:Int))=(LW p l:Int)
 |[]=>rfl
 | i::r=>by
  have ih:=V4 hv r;have h0:=Zt (vT hv) i;have e1:yN p.vars ((i::r).map fun n:Nat=>(n:Int))=zE p.vars i+yN p.vars (r.map fun n:Nat=>(n:Int)):=by simp[yN]
  have e2:LW p (i::r)=jp p i+LW p r:=by simp[LW]
  rw[e1,e2,ih];unfold jp;omega
def qbe{p}(hv:qk p=0){k i}(hk:(NG p).flatten[k]?=some i):ZD (qE p) i=LW p ((NG p).flatten.take k):=by
 have hk':p.groups.flatten[k]?=some (i:Int):=by rw[QL hv,qy7,hk];rfl
 have h1:=YL hv hk';rw[QL hv,<- List.map_take,V4 hv]at h1;unfold ZD;rw[qyS,h1];simp
def qj8{p}(hv:qk p=0):LW p (NG p).flatten<=20:=by
 have:=YZ hv;rw[QL hv,V4 hv]at this;omega
def qje{d}(h:DagOk d){node l w v}(hn:node<d.length)(hl:l<=lvD d node)(hlw:l+w<=20):∀k,k<=w ->
 wV d l w v node k<d.length/\l+k<=lvD d (wV d l w v node k)/\∀b,(∀j,j<k->b (l+j)=v.testBit (w-1-j))->evD d b node=evD d b (wV d l w v node k):=by
 intro k
 induction k with
 |zero=>intro _;exact⟨hn,hl,fun b _=>rfl⟩
 | succ k ih=>
  intro hk;obtain⟨h1,h2,h3⟩:=ih (by omega);rw[ZT];obtain⟨g1,g2,g3⟩:=yD h h1 (L:=l+k) (by omega) h2 (v.testBit (w-1-k));refine⟨g1,by omega,fun b hb=>?_⟩;rw[h3 b fun j hj=>hb j (by omega),g3 b (hb k (by omega))]
def JG(p:Problem)(b:Nat->Bool)(i:Nat):Nat:=zf (fun k=>b (ZD (qE p) i+jp p i-1-k)) (jp p i)
def Yb{p b i v}(h:JG p b i=v){j}(hj:j<jp p i):b (ZD (qE p) i+j)=v.testBit (jp p i-1-j):=by
 rw[<- h];unfold JG;rw[qR];simp[show jp p i-1-j<jp p i by omega,show ZD (qE p) i+jp p i-1-(jp p i-1-j)=ZD (qE p) i+j by omega]
def qjF:List (Nat×Nat)->Nat->Bool
 |[],_=>false
 |(w,v)::r,l=>if l<w then v.testBit (w-1-l) else qjF r (l-w)
def qeT:∀(l) (k w v j),l[k]?=some (w,v)->j<w->qjF l (((l.take k).map (·.1)).sum+j)=v.testBit (w-1-j)
 |[],k,w,v,j,h,_=>by simp at h
 | (w',v')::r,0,w,v,j,h,hj=>by
  simp at h;obtain⟨rfl,rfl⟩:=h;simp[qjF,hj]
 | (w',v')::r,k+1,w,v,j,h,hj=>by
  have ih:=qeT r k w v j (by simpa using h) hj;have e:((((w',v')::r).take (k+1)).map (·.1)).sum+j=w'+(((r.take k).map (·.1)).sum+j):=by simp;omega
  rw[e,qjF,if_neg (by omega),qzF,ih]
def qeS{p}(hv:qk p=0)(val:Nat->Nat):∃b,∀i∈(NG p).flatten,JG p b i=val i%2^jp p i:=by
 refine⟨qjF ((NG p).flatten.map fun i=>(jp p i,val i)),fun i hi=>?_⟩;obtain⟨k,hk⟩:=qzq hi;have hl:=qbe hv hk;rw[<- Ja];unfold JG;apply zg;intro j hj;have h:=qeT ((NG p).flatten.map fun i=>(jp p i,val i)) k (jp p i) (val i) (jp p i-1-j) (by rw[qy7,hk];rfl) (by omega);have e1:(((((NG p).flatten.map fun i=>(jp p i,val i)).take k).map (·.1)).sum)=LW p ((NG p).flatten.take k):=by
  unfold LW;rw[<- List.map_take,qz0];rfl
 rw[e1,<- hl]at h;rw[show ZD (qE p) i+jp p i-1-j=ZD (qE p) i+(jp p i-1-j) by omega,h,show jp p i-1-(jp p i-1-j)=j by omega]
def W6{p}(hv:qk p=0){i v}(hi:p.vars[i]?=some v)(hm:v.mode≠0):i∈(NG p).flatten:=by
 obtain⟨k,hk⟩:=qhD hv hi hm;rw[QL hv,qy7]at hk
 cases h:(NG p).flatten[k]? with
 |none=>rw[h]at hk;cases hk
 | some j=>
  rw[h]at hk;have:(j:Int)=i:=by simpa using hk
  have:j=i:=by omega
  exact this▸qyG h
def kV{p}(hv:qk p=0){i}(hi:i∈(NG p).flatten):∃v,p.vars[i]?=some v/\v.mode≠0:=by
 obtain⟨k,hk⟩:=qj5 hv hi;obtain⟨n,v,hn,hv',hm⟩:=Ym ((jW hv).2.1 _ (qyG hk));have:n=i:=by omega
 subst this;exact⟨v,hv',hm⟩
def wW{p}(hv:qk p=0)(b){i v}(hi:p.vars[i]?=some v)(hm:v.mode≠0):(Qd p.vars (qE p) b)[i]?=some (JG p b i:Int):=by
 have hli:=qyH (by rw[yW];exact(qyF.1 hi).1);rw[qdl hi hli];unfold qg7 JG ZD;rw[if_neg hm,(qoC hv hi).1,qyS,hli];rfl
def VT{p:Problem}(b:Nat->Bool){i:Nat}{v:Var}(hi:p.vars[i]?=some v)(hm:v.mode=0):(Qd p.vars (qE p) b)[i]?=some v.value:=by
 have hli:=qyH (by rw[yW];exact(qyF.1 hi).1);rw[qdl hi hli];unfold qg7;rw[if_pos hm]
def qnH:∀{vs:List Var}{a:List Int},a.length=vs.length->(∀(i:Nat) (v:Var),vs[i]?=some v->∃x,a[i]?=some x/\(if v.mode=0 then x=v.value else 0<=x/\x<(z7 v:Nat)))->okA vs a
 |[],[],_,_=>trivial
 |[],_::_,h,_=>by simp at h
 |_::_,[],h,_=>by simp at h
 | v::vs,x::a,h,hx=>by
  obtain⟨y,hy,hc⟩:=hx 0 v rfl;simp at hy;subst hy;exact⟨hc,qnH (by simpa using h) fun i w hw=>by
   obtain⟨y,hy,hc⟩:=hx (i+1) w (by simpa using hw);exact⟨y,by simpa using hy,hc⟩⟩
def qoO(p b i):JG p b i<2^jp p i:=y8 _ _
def VU{p}(hv:qk p=0)(b):Qd p.vars (qE p) b∈jF p.vars:=by
 refine kl.2 (qnH (JZ (yW p) b) fun i v hi=>?_);by_cases hm:v.mode=0
 . exact⟨_,VT b hi hm,by rw[if_pos hm]⟩
 refine⟨_,wW hv b hi hm,?_⟩;rw[if_neg hm];have:=qoO p b i;rw[(qoC hv hi).1]at this;unfold z7;omega
def qbZ{p}(hv:qk p=0){a}(ha:a∈jF p.vars):∃b,Qd p.vars (qE p) b=a/\∀i∈(NG p).flatten,a[i]?=some (JG p b i:Int):=by
 have hok:=kl.1 ha;obtain⟨b,hb⟩:=qeS hv (fun i=>(a.getD i 0).toNat);have hr:∀i∈(NG p).flatten,a[i]?=some (JG p b i:Int):=fun i hi=>by
  obtain⟨v,hv',hm⟩:=kV hv hi;obtain⟨x,hx,hc⟩:=yy hok hv';rw[if_neg hm]at hc;have:=hb i hi;rw[qyS,hx]at this;unfold z7 at hc;rw[(qoC hv hv').1]at this;dsimp only[Option.getD]at this;have hlt:x.toNat<2^v.width.toNat:=by omega
  rw[qAw hlt]at this;rw[hx,this];congr 1;omega
 refine⟨b,?_,hr⟩;apply qzC;intro i
 cases hi:p.vars[i]? with
 | none=>
  have hl:=List.getElem?_eq_none_iff.1 hi;rw[qy6 (by rw[JZ (yW p)];exact hl),qy6 (by rwa[hok.len])]
 | some v=>
  by_cases hm:v.mode=0
  . obtain⟨x,hx,hc⟩:=yy hok hi;rw[if_pos hm]at hc;rw[VT b hi hm,hx,hc]
  rw[wW hv b hi hm,hr i (W6 hv hi hm)]
structure Inv(p)(d:List Nd)(root)(c:List (Nat×Nat))(node):Prop where
 lt:node<d.length
 lv:LW p (c.map (·.1))<=lvD d node
 pre:∃post,(NG p).flatten=c.map (·.1)++post
 ev:∀b,(∀q∈c,JG p b q.1=q.2)->evD d b root=evD d b node
def qeq{p}(hv:qk p=0){d}(hd:DagOk d){root c node}(h:Inv p d root c node){i v}(hi:∃post,(NG p).flatten=c.map (·.1)++i::post):
 Inv p d root (c++[(i,v)]) (wV d (ZD (qE p) i) (jp p i) v node (jp p i)):=by
 obtain⟨post,hpost⟩:=hi;have hk:(NG p).flatten[(c.map (·.1)).length]?=some i:=by rw[hpost,qyO (qyQ _),qzU];rfl
 have hlv:=qbe hv hk;rw[show(NG p).flatten.take (c.map (·.1)).length=c.map (·.1) by rw[hpost,List.take_left]]at hlv;have hle:LW p (c.map (·.1))+jp p i<=20:=by
  have h1:=qj8 hv;rw[hpost,qe1]at h1;have:LW p (i::post)=jp p i+LW p post:=by simp[LW]
  omega
 obtain⟨h1,h2,h3⟩:=qje hd (w:=jp p i) (v:=v) h.lt (l:=ZD (qE p) i) (by rw[hlv];exact h.lv) (by omega) (jp p i) (qyQ _);refine⟨h1,?_,⟨post,by rw[hpost];simp⟩,fun b hb=>?_⟩
 . rw[qzE,qe1];have:LW p (([(i,v)]:List (Nat×Nat)).map (·.1))=jp p i:=by simp[LW]
   omega
 rw[h.ev b fun q hq=>hb q (by simp[hq])];exact h3 b fun j hj=>Yb (hb (i,v) (by simp)) hj
def KQ{p b b' i}(h:∀j,j<jp p i->b (ZD (qE p) i+j)=b' (ZD (qE p) i+j)):JG p b i=JG p b' i:=by
 unfold JG;apply zg;intro k hk;rw[show ZD (qE p) i+jp p i-1-k=ZD (qE p) i+(jp p i-1-k) by omega];exact h _ (by omega)
def qeI{q}:∀{c:List (Nat×Nat)},(c.map (·.1)).Nodup->q∈c->c.find? (fun q'=>q'.1==q.1)=some q
 |[],_,h=>by simp at h
 | x::r,hn,h=>by
  rw[qyR,qBg]at hn;rcases qy9.1 h with rfl|h
  . simp
  have hne:¬x.1=q.1:=fun e=>hn.1 (qza.2 ⟨q,h,e.symm⟩)
  have:(x.1==q.1)=false:=by simpa using hne
  rw[qBO,this];exact qeI hn.2 h
def qep{p}(hv:qk p=0){R d}(hd:DagOk d){root}(hroot:∀b,evD d b root=j9 p.vars R (Qd p.vars (qE p) b)){c}(hc:qnf p c)(hnd:(NG p).flatten.Nodup){node}(h:Inv p d root c node):
 okC p R c = !decide (node=0):=by
 obtain⟨post,hpost⟩:=h.pre;have hmem:∀q∈c,q.1∈(NG p).flatten:=fun q hq=>by rw[hpost];exact qy0.2 (.inl (qza.2 ⟨q,hq,rfl⟩))
 by_cases h0:node=0
 . have:okC p R c=false:=by
    rw[qzT];intro hok;unfold okC at hok;obtain⟨a,ha,hs⟩:=qy8.1 hok;rw[qyJ]at hs;obtain⟨b,hb,hbv⟩:=qbZ hv ha;have hf:∀q∈c,JG p b q.1=q.2:=fun q hq=>by
     have h1:=hbv _ (hmem q hq);have h2:=of_decide_eq_true (qyP.1 hs.2 q hq);rw[h1]at h2;have:(JG p b q.1:Int)=(q.2:Int):=by simpa using h2
     omega
    have h1:=h.ev b hf;rw[hroot,hb,h0,JB hd]at h1;rw[h1]at hs;cases hs.1
   rw[this,h0];rfl
 have:okC p R c=true:=by
  obtain⟨b,hb⟩:=qqy hd node node h.lt (qyQ _) h0;obtain⟨b0,hb0⟩:=qeS hv (fun i=>match c.find? (fun q=>q.1==i) with|some q=>q.2|none=>0);obtain⟨b',hb'⟩:∃b':Nat->Bool,b'=fun l=>if l<LW p (c.map (·.1)) then b0 l else b l:=⟨_,rfl⟩
  have hnode:evD d b' node=true:=by
   rw[<- hb];apply Y8 hd h.lt;intro l hl;have:=h.lv;rw[hb'];dsimp only;rw[if_neg (by omega)]
  have hcn:(c.map (·.1)).Nodup:=by
   rw[hpost]at hnd;exact(qz3.1 hnd).1
  have hf:∀q∈c,JG p b' q.1=q.2:=fun q hq=>by
   obtain⟨k,hk⟩:=qzq hq;have hkl:=(qyF.1 hk).1;have hkF:(NG p).flatten[k]?=some q.1:=(by rw[hpost,qyT (by simpa using hkl),qy7,hk];rfl);have hlv:=qbe hv hkF;have hw:ZD (qE p) q.1+jp p q.1<=LW p (c.map (·.1)):=by
    rw[hlv,show(NG p).flatten.take k=(c.map (·.1)).take k by rw[hpost,qzL (by simp;omega)]];have h1:(c.map (·.1))=(c.map (·.1)).take k++q.1::(c.map (·.1)).drop (k+1):=by
     have h2:(c.map (·.1)).drop k=q.1::(c.map (·.1)).drop (k+1):=by
      have h3:(c.map (·.1))[k]?=some q.1:=(by rw[qy7,hk];rfl);obtain⟨h4,h5⟩:=qyF.1 h3;rw[qy1 h4,h5]
     rw[<- h2,qzA]
    have h2:=congrArg (LW p) h1;rw[qe1]at h2;have h3:LW p (q.1::(c.map (·.1)).drop (k+1))=jp p q.1+LW p ((c.map (·.1)).drop (k+1)):=(by simp[LW]);omega
   have e1:JG p b' q.1=JG p b0 q.1:=KQ fun j hj=>by
    rw[hb'];dsimp only;rw[if_pos (by omega)]
   rw[e1,hb0 _ (hmem q hq)];have hfind:=qeI hcn hq;rw[hfind];exact qAw (hc q hq).2
  have hr:=h.ev b' hf;rw[hnode,hroot]at hr;unfold okC;refine qy8.2 ⟨_,VU hv b',?_⟩;rw[hr,qzN,qyP];intro q hq;obtain⟨⟨v,hi,hm⟩,_⟩:=hc q hq;rw[wW hv b' hi hm,hf q hq];simp
 rw[this];simp[h0]
def qhj{p}(hv:qk p=0){R d}(hd:DagOk d){root}(hroot:∀b,evD d b root=j9 p.vars R (Qd p.vars (qE p) b))(hnd:(NG p).flatten.Nodup){fx}(hf:qkl p fx):
 ∀(g) (c) (node),(∃post,(NG p).flatten=c.map (·.1)++g++post)->qnf p c->Inv p d root c node->V5 p (qE p) d fx g node=V6 p R fx g c:=by
 intro g
 induction g with
 | nil=>
  intro c node hg hc h;unfold V5 V6;rw[qep hv hd hroot hc hnd h];by_cases h0:node=0<;>simp[h0]
 | cons i r ih=>
  intro c node hg hc h;obtain⟨post,hpost⟩:=hg;unfold V5 V6;rw[qep hv hd hroot hc hnd h];by_cases h0:node=0
  . simp[h0]
  simp only[h0,if_false,decide_false,qBW,if_true];refine kg fun s v hvm=>?_
  have hc':qnf p (c++[(i,v)]):=fun q hq=>by
   rcases qy0.1 hq with hq|hq
   . exact hc q hq
   have:=qzh.1 hq;subst this;exact⟨kV hv (by rw[hpost];simp),qgY hf hvm⟩
  rw[ih (c++[(i,v)]) _ ⟨post,by rw[hpost];simp⟩ hc' (qeq hv hd h ⟨r++post,by rw[hpost];simp⟩)]
def qp1{p d root}(h:root<d.length):Inv p d root [] root:=⟨h,by simp[LW],⟨_,rfl⟩,fun b _=>rfl⟩
def ql0{p}(hv:qk p=0){d}(hd:DagOk d){root}(val:Nat->Nat):∀(l) (c) (node),Inv p d root c node->(∃post,(NG p).flatten=c.map (·.1)++l++post) ->
 Inv p d root (c++l.map fun i=>(i,val i)) (l.foldl (fun node i=>wV d (ZD (qE p) i) (jp p i) (val i) node (jp p i)) node):=by
 intro l
 induction l with
 |nil=>intro c node h _;simpa using h
 | cons i r ih=>
  intro c node h ⟨post,hpost⟩;have h1:=qeq hv hd h (i:=i) (v:=val i) ⟨r++post,by rw[hpost];simp⟩;have h2:=ih _ _ h1 ⟨post,by rw[hpost];simp⟩;rw[qzm,qyR];simpa using h2
def qeZ{p gi g}(h:(NG p)[gi]?=some g):∃post,(NG p).flatten=((NG p).take gi).flatten++g++post:=by
 have h1:=qzA gi (NG p);obtain⟨h2,h3⟩:=qyF.1 h;refine⟨((NG p).drop (gi+1)).flatten,?_⟩
 conv=>lhs;rw[<- h1,show(NG p).drop gi=g::(NG p).drop (gi+1) by rw[qy1 h2,h3]]
 simp
def qe0{p}(hv:qk p=0):(NG p).flatten.Nodup:=by
 have h:=(jW hv).2.2.1;rw[QL hv]at h;exact(qBK.1 h).imp fun hne e=>hne (by rw[e])
def qoU{s d}(h:SpV s d)(hroot:s.small=true->∀b,evD d b s.root=j9 s.p.vars s.R (Qd s.p.vars (qE s.p) b)){fx}(hf:qkl s.p fx){a}(ha:∀i∈(NG s.p).flatten,aN a i<2^jp s.p i){gi}(hgi:gi<(NG s.p).length):
 qaD s d fx a gi=V6 s.p s.R fx ((NG s.p).getD gi []) (((NG s.p).take gi).flatten.map fun i=>(i,aN a i)):=by
 obtain⟨g,hg⟩:∃g,(NG s.p)[gi]?=some g:=⟨_,qyH hgi⟩;obtain⟨post,hpost⟩:=qeZ hg;have hin:∀i∈((NG s.p).take gi).flatten,i∈(NG s.p).flatten:=fun i hi=>by rw[hpost];simp[hi]
 have hc:qnf s.p (((NG s.p).take gi).flatten.map fun i=>(i,aN a i)):=fun q hq=>by
  obtain⟨i,hi,rfl⟩:=qza.1 hq;exact⟨kV h.vp (hin i hi),ha i (hin i hi)⟩
 have hmm:(((NG s.p).take gi).flatten.map fun i=>(i,aN a i)).map (·.1)=((NG s.p).take gi).flatten:=by
  rw[qz0];exact List.map_id _
 unfold qaD;rw[show(NG s.p).getD gi []=g by simp[qyS,hg]];by_cases hsm:s.small=true
 . rw[if_pos hsm];obtain⟨hd,_,hr⟩:=h.dag hsm;have hi:=ql0 h.vp hd (aN a) ((NG s.p).take gi).flatten [] s.root (qp1 hr) ⟨g++post,by rw[hpost];simp⟩;rw[h.lv];have:=qhj h.vp hd (hroot hsm) (qe0 h.vp) hf g _ _ ⟨post,by rw[qy2,hmm];exact hpost⟩ (by rwa[qy2]) hi;rw[qy2]at this;rw[<- this];unfold Q3;rw[h.lv]
 rw[if_neg hsm];have:=qhi h.vp s.R hf g _ (fun i hi=>kV h.vp (by rw[hpost];simp[hi])) hc;rw[<- this];unfold Wa;rw[qz0];rfl
noncomputable def qgA(p:Problem)(fx:Nat->Option Nat)(a:List Int)(gi:Nat):Nat:=V6 p (ql p).1 fx ((NG p).getD gi []) (((NG p).take gi).flatten.map fun i=>(i,aN a i))
noncomputable def Jb(p:Problem)(gi:Int)(a:List Int):Int×Int :=
 if gi<0\/((NG p).length:Int)<=gi\/qK p.vars a=false then(0,1)
 else if qgA p (fun _=>none) a gi.toNat=0 then(0,11) else if qgA p (fun _=>none) a gi.toNat=lim then(0,3) else(qgA p (fun _=>none) a gi.toNat,0)
noncomputable def chP(p:Problem)(a:List Int)(gi:Nat):List Nat->(Nat->Option Nat)->Int->List Int->List Int
 |[],_,_,out=>out
 | i::r,fx,idx,out=>
  let q:=we (fun x=>qgA p (wo fx i x) a gi) (2^wdN p i) 0 idx
  chP p a gi r (wo fx i q.1) q.2 (out.set i q.1)
noncomputable def ZX(p:Problem)(gi:Nat)(a:List Int)(idx:Int):List Int:=chP p a gi (y9 ((NG p).getD gi [])) (fun _=>none) idx a
def qgM(p i):wdN p i=jp p i:=by
 unfold wdN jp zE;split<;>rename_i h<;>simp[h]
def qd8(F):∀(n x) (idx),0<n->x<=(we F n x idx).1/\(we F n x idx).1<x+n
 |0,x,idx,h=>absurd h (by omega)
 | n+1,x,idx,_=>by
  unfold we;split
  . exact⟨qyQ _,by simp⟩
  split
  . exact⟨qyQ _,by simp⟩
  have:=qd8 F n (x+1) (idx-F x) (by omega);omega
def Yv{F G}:∀(n x) (idx),(∀y,x<=y->y<x+n->F y=G y)->we F n x idx=we G n x idx
 |0,x,idx,h=>rfl
 | n+1,x,idx,h=>by
  unfold we;rw[h x (qyQ _) (by omega),Yv n (x+1) _ fun y h1 h2=>h y (by omega) (by omega)]
def qkl.upd{p fx}(h:qkl p fx){i x}(hx:x<2^jp p i):qkl p (wo fx i x):=fun k y hy=>by
 unfold wo at hy;split at hy
 . rename_i e;subst e;have:x=y:=by simpa using hy
   omega
 exact h k y hy
def qtr{s d p a gi}(hp:s.p=p)(hs:∀fx,qkl p fx->qaD s d fx a gi=qgA p fx a gi):∀(l) (fx) (idx) (out),qkl p fx->chS s d a gi l fx idx out=chP p a gi l fx idx out:=by
 intro l
 induction l with
 |nil=>intro fx idx out _;rfl
 | cons i r ih=>
  intro fx idx out hf;have hpk:we (fun x=>qaD s d (wo fx i x) a gi) (2^wdN s.p i) 0 idx=we (fun x=>qgA p (wo fx i x) a gi) (2^wdN p i) 0 idx:=by
   rw[hp];refine Yv _ _ _ fun y _ hy=>hs _ (hf.upd ?_)
   rw[qgM]at hy;omega
  have hlt:=qd8 (fun x=>qgA p (wo fx i x) a gi) (2^wdN p i) 0 idx (qAi _);rw[qgM]at hlt;unfold chS chP;dsimp only;rw[hpk];rw[qgM]at *;exact ih _ _ _ (hf.upd (by omega))
def Z3{p}(h:qk p=0){a}(ha:qK p.vars a=true):a.length=p.vars.length/\∀i∈(NG p).flatten,aN a i<2^jp p i:=by
 unfold qK at ha;simp only[qyJ,decide_eq_true_eq]at ha;refine⟨ha.1,fun i hi=>?_⟩;obtain⟨v,hv,hm⟩:=kV h hi;have hil:=(qyF.1 hv).1;obtain⟨x,hx⟩:∃x,a[i]?=some x:=⟨_,qyH (by omega)⟩;have hz:(v,x)∈p.vars.zip a:=qyG (i:=i) (qAo.2 ⟨hv,hx⟩);have h1:=qyP.1 ha.2 _ hz;unfold jl at h1;simp only[qyJ,decide_eq_true_eq]at h1;have h3:((2^v.width.toNat:Nat):Int)=(2:Int)^v.width.toNat:=by simp
 unfold aN;rw[qyS,hx,(qoC h hv).1];dsimp only[Option.getD];omega
structure SpR(p)(s:Spc)(d):Prop where
 pe:s.p=p
 R:s.R=(ql p).1
 v:SpV s d
 root:s.small=true->∀b,evD d b s.root=j9 p.vars (ql p).1 (Qd p.vars (qE p) b)
def SpR.sum{p s d}(h:SpR p s d){a}(ha:qK p.vars a=true){gi}(hgi:gi<(NG p).length)(fx)(hf:qkl p fx):qaD s d fx a gi=qgA p fx a gi:=by
 obtain⟨hp,hR,hv,hr⟩:=h;subst hp;have:=qoU hv (by rwa[hR]) hf (Z3 hv.vp ha).2 hgi;rw[this,hR];rfl
def SpR.tot{p s d}(h:SpR p s d)(gi a):KU s d gi a=Jb p gi a:=by
 unfold KU Jb;rw[h.pe];split
 . rfl
 rename_i hn;have h1:qK p.vars a=true:=by
  cases hA:qK p.vars a with
  |true=>rfl
  |false=>exact absurd (.inr (.inr hA)) hn
 have h2:gi.toNat<(NG p).length:=by
  have:¬gi<0:=fun e=>hn (.inl e)
  have:¬((NG p).length:Int)<=gi:=fun e=>hn (.inr (.inl e))
  omega
 rw[h.sum h1 h2 _ (fun i x hx=>by cases hx)]
def SpR.ch{p s d}(h:SpR p s d){a}(ha:qK p.vars a=true){gi}(hgi:gi<(NG p).length)(idx):VL s d gi a idx=ZX p gi a idx:=by
 unfold VL ZX;rw[qtr h.pe (fun fx hf=>h.sum ha hgi fx hf) _ _ _ _ (fun i x hx=>by cases hx),h.pe]
def qjy(p a gi):∀(l) (fx) (idx) (out),(chP p a gi l fx idx out).length=out.length
 |[],_,_,_=>rfl
 | i::r,fx,idx,out=>by
  unfold chP;dsimp only;rw[qjy p a gi r];simp
def qdf(p gi a idx):(ZX p gi a idx).length=a.length:=qjy _ _ _ _ _ _ _
noncomputable def yC(p:Problem)(R:List Ex)(fx:Nat->Option Nat):List Nat->List (Nat×Nat)->Nat
 |[],c=>if okC p R c=true then 1 else 0
 |i::r,c=>qfu (fun v=>wtP p i v*yC p R fx r (c++[(i,v)])) (vo (jp p i) (fx i))
def qpz{p R c d}(h:okC p R (c++d)=true):okC p R c=true:=by
 unfold okC at h⊢;obtain⟨a,ha,hs⟩:=qy8.1 h;rw[qyJ,qAa,qyJ]at hs;exact qy8.2 ⟨a,ha,by rw[qyJ];exact⟨hs.1,hs.2.1⟩⟩
def Zu{p R fx}:∀(g) (c),okC p R c≠true->yC p R fx g c=0
 |[],c,h=>if_neg h
 | i::r,c,h=>by
  unfold yC;refine qaE fun v _=>?_
  rw[Zu r _ (fun h'=>h (qpz h')),Nat.mul_zero]
def qsa(w t)(h:w<=lim):sat (w*sat t)=sat (w*t):=by
 have:=qo8 w t;have e:sat w=w:=qAb h
 rwa[e]at this
def qeE{α}(w t:α->Nat)(hw:∀x,w x<=lim):∀(l) (s),l.foldl (fun s v=>sat (s+sat (w v*sat (t v)))) (sat s)=sat (s+qfu (fun v=>w v*t v) l)
 |[],s=>by simp[qfu]
 | x::l,s=>by
  rw[qzm,qsa _ _ (hw x),qo9,qeE w t hw l];simp only[qfu];rw[qAR]
def qaF{p R fx}:∀(g:List Nat) (c:List (Nat×Nat)),V6 p R fx g c=sat (yC p R fx g c)
 | [],c=>by
  unfold V6 yC;split<;>rfl
 | i::r,c=>by
  by_cases h:okC p R c=true
  . unfold V6 yC;rw[if_pos h];have e:(fun s v=>sat (s+sat (wtP p i v*V6 p R fx r (c++[(i,v)]))))=(fun s v=>sat (s+sat (wtP p i v*sat (yC p R fx r (c++[(i,v)]))))):=by
     funext s v;rw[qaF r]
    rw[e];have:=qeE (fun v=>wtP p i v) (fun v=>yC p R fx r (c++[(i,v)])) (fun v=>qdt p i v) (vo (jp p i) (fx i)) 0;rw[qz9]at this;exact this
  rw[Zu _ _ h];unfold V6;rw[if_neg h];rfl
noncomputable def kv(p:Problem)(val:Nat->Nat):List Nat->Nat
 |[]=>1
 |i::r=>wtP p i (val i)*kv p val r
def qaB(p fx a gi):qgA p fx a gi=sat (yC p (ql p).1 fx ((NG p).getD gi []) (((NG p).take gi).flatten.map fun i=>(i,aN a i))):=qaF _ _
def Yt(p:Problem)(a:List Int)(gi:Nat):List (Nat×Nat):=((NG p).take gi).flatten.map fun i=>(i,aN a i)
def qoQ{p}{gi:Nat}{a}(h:(Jb p gi a).2=0):gi<(NG p).length/\qK p.vars a=true/\(Jb p gi a).1=(yC p (ql p).1 (fun _=>none) ((NG p).getD gi []) (Yt p a gi):Nat)/\0<yC p (ql p).1 (fun _=>none) ((NG p).getD gi []) (Yt p a gi)/\yC p (ql p).1 (fun _=>none) ((NG p).getD gi []) (Yt p a gi)<lim:=by
 unfold Jb at h⊢;split at h
 . cases h
 rename_i hn;split at h
 . cases h
 rename_i h1;split at h
 . cases h
 rename_i h2;rw[if_neg hn,if_neg h1,if_neg h2];have hg:gi<(NG p).length:=by
  have:¬((NG p).length:Int)<=gi:=fun e=>hn (.inr (.inl e))
  omega
 have ha:qK p.vars a=true:=by
  cases hA:qK p.vars a with
  |true=>rfl
  |false=>exact absurd (.inr (.inr hA)) hn
 have e:qgA p (fun _=>none) a (gi:Int).toNat=sat (yC p (ql p).1 (fun _=>none) ((NG p).getD gi []) (Yt p a gi)):=qaB _ _ _ _;rw[e]at h1 h2⊢;have h3:=qsb h2;rw[h3]at h1⊢;refine⟨hg,ha,rfl,qAK h1,?_⟩;have:=Yg (yC p (ql p).1 (fun _=>none) ((NG p).getD gi []) (Yt p a gi));omega
def qhr{vs l m}(h:∀e,e∈l↔e∈m):jT vs l=jT vs m:=by
 have:∀a,j9 vs l a=j9 vs m a:=fun a=>by
  unfold j9;rw[qzz,qyP,qyP];exact⟨fun h1 e he=>h1 e ((h e).2 he),fun h1 e he=>h1 e ((h e).1 he)⟩
 unfold jT;congr 1;funext a;exact this a
def YN(vs):∀(L) (R),jT vs R=true->jT vs (R++(wh vs R L).map (·.2))=true
 |[],R,h=>by simpa[wh] using h
 | x::r,R,h=>by
  unfold wh;split
  . rename_i h1;have:=YN vs r (R++[x.2]) h1;simpa using this
  exact YN vs r R h
def yV{p}(h:(ql p).2=0):qk p=0/\jT p.vars (zI p)=true/\jT p.vars (ql p).1=true/\∀e∈zI p,e∈(ql p).1:=by
 rw[vW]at h;obtain⟨h1,h2,h3,_⟩:=QV h;refine⟨h1,h2,?_,fun e he=>?_⟩
 . rw[h3];have:=YN p.vars (Jy p.soft) (zI p) h2;rw[<- this];refine qhr fun e=>?_
   have hn:qcQ p=zI p:=by
    unfold qcQ zI;have:yg p=w9 p:=if_pos h1;rw[this]
   unfold ZE;rw[hn];simp
 rw[h3];exact qzM _ he
def qpA(p R):okC p R []=jT p.vars R:=by
 unfold okC jT;congr 1;funext a;simp
noncomputable def qkK(p:Problem)(R:List Ex)(fx:Nat->Option Nat)(a:List Int)(gi:Nat):Nat:=V6 p R fx ((NG p).getD gi []) (((NG p).take gi).flatten.map fun i=>(i,aN a i))
noncomputable def Jr(p:Problem)(R:List Ex)(gi:Int)(a:List Int):Int×Int :=
 if gi<0\/((NG p).length:Int)<=gi\/qK p.vars a=false then(0,1)
 else if qkK p R (fun _=>none) a gi.toNat=0 then(0,11) else if qkK p R (fun _=>none) a gi.toNat=lim then(0,3) else(qkK p R (fun _=>none) a gi.toNat,0)
noncomputable def quR(p:Problem)(R:List Ex)(a:List Int)(gi:Nat):List Nat->(Nat->Option Nat)->Int->List Int->List Int
 |[],_,_,out=>out
 | i::r,fx,idx,out=>
  let q:=we (fun x=>qkK p R (wo fx i x) a gi) (2^wdN p i) 0 idx
  quR p R a gi r (wo fx i q.1) q.2 (out.set i q.1)
noncomputable def qmM(p:Problem)(R:List Ex)(gi:Nat)(a:List Int)(idx:Int):List Int:=quR p R a gi (y9 ((NG p).getD gi [])) (fun _=>none) idx a
def qts(p a gi):∀(l) (fx) (idx) (out),chP p a gi l fx idx out=quR p (ql p).1 a gi l fx idx out
 |[],_,_,_=>rfl
 | i::r,fx,idx,out=>by
  unfold chP quR;exact qts p a gi r _ _ _
def qnj(p gi a):Jb p gi a=Jr p (ql p).1 gi a:=rfl
def qjt(p gi a idx):ZX p gi a idx=qmM p (ql p).1 gi a idx:=qts _ _ _ _ _ _ _
def qfF{p}(hv:qk p=0)(hs:p.soft=[])(hd:p.dists=[])(h:jT p.vars p.hard=true):ql p=(p.hard,0):=by
 have hn:zI p=p.hard:=by
  unfold zI yg w9;rw[if_pos hv,hd];simp
 have hns:qcQ p=p.hard:=by
  unfold qcQ w9;rw[hd];simp
 unfold ql;rw[if_pos hv,hn,if_pos h];unfold qhC ZE;rw[hns,hs];simp[Jy,wh]
def p1:Problem:={vars:=[⟨[97],1,2,0⟩],hard:=[],soft:=[],dists:=[],groups:=[[0]]}
end Go.Proofs.YtfmdnopgncbmoaaGreatDoor
namespace Go.Abs
open Go Go.RowKit
def Pure.ofA{P G f args r Q}(h:qf P (Jx G) f args ⟨[],[]⟩ Q)(hq:∀v U',Q v U'->zb (frz U'.H 8 v)=true/\Leq (frz U'.H 8 v) r):Pure P G f args r:=by
 refine⟨h.1,?_⟩;intro w0 ro vs hg hro hvs;have hw:WRel (Jx G) w0 ro (K0 ro) ⟨[],[]⟩ w0:=⟨Below.refl _ _,hg,hro,fun b o v e _=>e,by simp,fun _ _ _ e=>by simp[K0]at e,fun _ _ e=>by simp[K0]at e,by simp,fun _ _ e=>by simp[K0]at e,
  fun _ _ _ _ e=>by simp[K0]at e,rfl,fun _ _ _ _ _ e=>by simp[K0]at e,fun _ _ e=>by simp[K0]at e,fun _ _ e=>by simp[K0]at e⟩
 refine(h.2 w0 ro (K0 ro) w0 vs hw hvs).mono ?_;rintro e w' (⟨v',v,U',K',rfl,h1,h2,hv,hQ⟩|⟨c,U',K',rfl,h1,h2,hX⟩)
 . obtain⟨q1,q2⟩:=h2.end_ro;obtain⟨g1,g2⟩:=hq v U' hQ;exact⟨v',vA w0 w' K'.ro,rfl,h2.below,fun b o v e=>JJ _ _ _ _ _ _ (h1.ro b o v e),q1,q2,qCS _ _ g2 (qiI h2 8 hv)⟩
 exact hX.elim
end Go.Abs
namespace Go.Proofs.YtfmdnopgncbmoaaGreatDoor
open Go Go.Abs Proofs.Tryz Go.ChangeShapes Go.WideShapes Go.ChangeAt Go.RowKit
def qgD.frz{b H v a}(h:qgD b H v a)(n):zb (Abs.frz H (n+1) v)=true/\Leq (Abs.frz H (n+1) v) (.sl 1 (a.map qq) .none)/\(zb v=true->Leq v (.sl 1 (a.map qq) .none)):=by
 rcases h with⟨rfl,sz,tok,rfl⟩|⟨h0,rfl,hb⟩
 . have h1:∀t,Leq (.sl sz [] t) (.sl 1 (([]:List Int).map qq) .none):=fun t=>by simp[Leq]
   refine⟨?_,?_,fun _=>h1 _⟩
   . unfold Abs.frz;split
     . assumption
     simp
   unfold Abs.frz;split
   . exact h1 _
   simp
 have ho:jr b 1 qq H (.ms b 0 a.length 1) a:=.inr ⟨h0,rfl,by rw[hb,yE]⟩;exact⟨ho.frzNo (fun _=>rfl) (fun _=>rfl) (fun _=>rfl) n,ho.frz (fun _=>rfl) (fun _=>rfl) (fun _=>rfl) n,fun h=>by simp[zb]at h⟩
def qeM{env e}(h:yu env e≠0):KJ env e=0/\yG env e≠0:=by
 unfold yu at h;split at h
 . rename_i hc;refine⟨?_,h⟩;unfold KJ;rw[if_neg (by simp[hc.1]),if_pos hc.2]
 exact absurd rfl h
def qqf{p:Problem}(hv:qk p=0){a:List Int}(ha:a∈jF p.vars){i:Nat}{v:Var}{z:Int}(hi:p.vars[i]?=some v)(hz:a[i]?=some z):jD (ki p.vars a) v.name=some z/\0<=z/\z<(z7 v:Nat)\/v.mode=0:=by
 by_cases hm:v.mode=0
 . exact .inr hm
 left;have hok:=kl.1 ha;obtain⟨x,hx,hxr⟩:=yy hok hi;rw[hz]at hx;cases hx;rw[if_neg hm]at hxr;have hve:=zc (ji hv v (qyG hi));have h3:2^v.width.toNat<=2^8:=qzc (by omega) (by omega);have hsz:z7 v=2^v.width.toNat:=rfl;have hf:=vL (ym hv) hi hz;rw[QN hxr.1 (by omega)]at hf;rw[show ki p.vars a=(p.vars.zip a).map fun q=>⟨q.1.name,q.2⟩ by unfold ki;rw[if_pos hok.len]];exact⟨hf,hxr⟩
def qfj{v}(h:jK v=0):0<=v.value/\v.value<(2:Int)^v.width.toNat:=by
 unfold jK at h;split at h
 . cases h
 split at h
 . cases h
 rename_i hc;omega
def v1:Var:=⟨[97],1,2,0⟩
def qgG{l:List Var}{a:List Int}{i:Nat}{v:Var}{x:Int}(h:l[i]?=some v)(h':a[i]?=some x):(l.zip a)[i]?=some (v,x):=(qAo (z:=(v,x))).2 ⟨h,h'⟩
def qdk{l a}(h:¬a.length=l.length):qK l a=false:=by simp[qK,h]
def qbX{l:List Var}{a:List Int}{i:Nat}{v:Var}{x:Int}(h:l[i]?=some v)(h':a[i]?=some x)(hb:jl (v,x)=false):qK l a=false:=by
 unfold qK;rw[qj0 (qyG (qgG h h')) hb,qBE]
def VR{l a i}(hlen:a.length=l.length)(hi:l.length<=i)(hz:∀q∈(l.zip a).take i,jl q=true):qK l a=true:=by
 unfold qK;rw[decide_eq_true hlen,qzN];exact VZ (by simp;omega) hz
def qfk{v}(h:jK v=0):1<=v.width/\v.width<=8:=(zc h).2
def qjN(p a)(hl:p.vars.length<=1000)(ha:Fits a)(hv:∀v∈p.vars,jK v=0):Pure prog GG 57 [.agg (qA p),.sl 1 (a.map qq) .none] (.bool (qK p.vars a)):=by
 refine qDb qe func57 rfl (by kernel_rfl) ?_;by_cases hlen:a.length=p.vars.length
 . generalize hr:qK p.vars a=r;simp[hlen];refine qC9 (fun n ev U=>∃i tl,i<=p.vars.length/\n=p.vars.length-i/\ev 1=.sl 1 (a.map qq) .none/\ev 14=.sl 4 (p.vars.map qD) .none/\ev 15=.int .i64 p.vars.length/\ev 16=.int .i64 i/\U=⟨tl,[]⟩/\∀q∈(p.vars.zip a).take i,jl q=true) p.vars.length ⟨0,_,by simp,by simp,by simp,by simp,by simp,by simp,rfl,by simp⟩ ?_;rintro n ev U ⟨i,tl,hi,rfl,h1,h14,h15,h16,rfl,hz⟩
   cases hvi:p.vars[i]? with
   | some v=>
    obtain⟨hc,hv'⟩:=qyF.1 hvi;have hca:i<a.length:=(by omega);obtain⟨x,hx⟩:∃x,a[i]?=some x:=⟨_,qyH hca⟩;have hx':=(qyF.1 hx).2;obtain⟨w1,w8⟩:=qfk (hv v (qyG hvi));have hs:IntKind.i64.wrap (2^min v.width.toNat IntKind.i64.bits)=2^v.width.toNat:=qvD w1 w8;have hw0:¬v.width<0:=(by omega);have bad:jl (v,x)=false->r=false:=fun hb=>by rw[<- hr];exact qbX hvi hx hb
    have good:jl (v,x)=true->∀q∈(p.vars.zip a).take (i+1),jl q=true:=fun hg=>za (p:=fun q=>jl q=true) (qgG hvi hx) hz hg
    by_cases c1:x<0
    . rw[bad (by simp only[jl];rw[decide_eq_false (by omega:¬0<=x)];rfl)];simp[h1,h14,h15,h16,hc,hca,hv',hx',qzi,c1]
    by_cases c2:(2:Int)^v.width.toNat<=x
    . rw[bad (by simp only[jl];rw[decide_eq_false (by omega:¬x<2^v.width.toNat)];simp)];simp[h1,h14,h15,h16,hc,hca,hv',hx',qzi,c1,hs,hw0,c2]
    by_cases c3:v.mode=0
    . by_cases c4:x=v.value
      . have g:=good (by simp only[jl];rw[decide_eq_true (by omega:0<=x),decide_eq_true (by omega:x<2^v.width.toNat),decide_eq_true c4];simp);subst c4;simp[h1,h14,h15,h16,hc,hca,hv',hx',qzi,c1,hs,hw0,c2,c3];exact⟨_,by omega,i+1,by omega,rfl,wr (by omega) (by omega),by simpa using g⟩
      . rw[bad (by simp only[jl];rw[decide_eq_true c3,decide_eq_false c4];simp)];simp[h1,h14,h15,h16,hc,hca,hv',hx',qzi,c1,hs,hw0,c2,c3,c4]
    have g:=good (by simp only[jl];rw[decide_eq_true (by omega:0<=x),decide_eq_true (by omega:x<2^v.width.toNat),decide_eq_false c3];simp);simp[h1,h14,h15,h16,hc,hca,hv',hx',qzi,c1,hs,hw0,c2,c3];exact⟨_,by omega,i+1,by omega,rfl,wr (by omega) (by omega),by simpa using g⟩
   | none=>
    have hle:p.vars.length<=i:=(by simpa using hvi);have hc:¬i<p.vars.length:=(by omega);rw[VR hlen hle hz]at hr;subst hr;simp[h14,h15,h16,hc]
 rw[qdk hlen];simp[show ¬(a.length:Int)=p.vars.length by omega]
def qiy(p a e):jw p a e=(decide (qk p=0)&&qK p.vars a&&decide (KJ (ki p.vars a) e=0)&&!decide (yu (ki p.vars a) e=0)):=rfl
def qex(p a e)(h:VQ p)(ha:Fits a)(hwe:Wen e)(hh:hgt e<=1000)(hsz:(pre e).length<=100000):Pure prog GG 28 [.agg (qA p),.sl 1 (a.map qq) .none,.agg (qt e)] (.bool (jw p a e)):=by
 refine qDb qe func28 rfl (by kernel_rfl) ?_;have hva:=yw p h;have hen:=qwI p a h.vars ha;have hev:=qn1 (ki p.vars a) (by have:=qmp (l:=p.vars) (a:=a);have:=h.vars;omega) e hwe (by omega) hsz;have hr:=qiy p a e;generalize jw p a e=r at hr⊢;simp only[qA]at hva hen;simp only[qd e];simp;refine qCW hva (by simp) ?_;by_cases h0:qk p=0
 . have has:=qjN p a h.vars ha (qcr h0);simp only[qA]at has;simp[h0];refine qCW has (by simp) ?_;rw[decide_eq_true h0,qzN]at hr;cases hc:qK p.vars a
   . rw[hc]at hr;subst hr;simp
   rw[hc,qzN]at hr;simp;refine qCW hen (by simp) ?_
   try simp[qd e]
   try rw[<- qd e]
   refine qCW hev (by simp) ?_;by_cases h1:KJ (ki p.vars a) e=0
   . by_cases h2:yu (ki p.vars a) e=0
     . rw[decide_eq_true h1,decide_eq_true h2]at hr;subst hr;simp[h1,h2]
     . rw[decide_eq_true h1,decide_eq_false h2]at hr;subst hr;simp[h1,h2]
   rw[decide_eq_false h1]at hr;simp at hr;subst hr;simp[h1]
 rw[decide_eq_false h0]at hr;simp at hr;subst hr;simp[h0]
def Vz{p}(hvp:qk p=0){a e}(h:yu (ki p.vars a) e≠0)(ha:qK p.vars a=true):jw p a e=true:=by
 obtain⟨h1,h2⟩:=qeM h;unfold jw;simp[hvp,ha,h1,h]
def km{p}(hvp:qk p=0){a}(ha:a∈jF p.vars):qK p.vars a=true:=by
 have hok:=kl.1 ha;unfold qK;simp only[qyJ,decide_eq_true_eq,qyP];refine⟨hok.len,?_⟩;rintro⟨v,x⟩ hx;obtain⟨i,hi⟩:=qzq hx;obtain⟨h1,h2⟩:=qAo.1 hi;obtain⟨y,hy,hc⟩:=yy hok h1;rw[h2]at hy;cases hy;dsimp only at h1 h2 hc⊢;have hve:=ji hvp v (qyG h1);have h3:((2^v.width.toNat:Nat):Int)=(2:Int)^v.width.toNat:=by simp
 unfold jl;by_cases hm:v.mode=0
 . rw[if_pos hm]at hc;subst hc;have hvv:=qfj hve;simp[hm,hvv]
 rw[if_neg hm]at hc;unfold z7 at hc;have:x<(2:Int)^v.width.toNat:=by omega
 simp[hm,hc.1,this]
def KV(e):(qt e).take 4=qt e:=qyN (Nat.le_of_eq (zh e))
def ql6{c:Nat}{cfr:List AV}(q:Ex->Bool)(l:List Ex)(hl:l.length<=50000)(tok:Abs.Tok)(H:List Blk)(T:List (Option Nat))
 (hc:∀e∈l,∀(H':List Blk) (T':List (Option Nat)),KpL [] H H'->qf prog GG c (.agg (qt e)::cfr) ⟨H',T'⟩ (fun r U'=>r=.bool (q e)/\KpL [] H' U'.H)):
 qf prog GG 87 [.sl 4 (l.map qt) tok,.fn c [] cfr] ⟨H,T⟩ (fun r U'=>(∃n:Int,r=.int .i64 n/\(l.any q=true->0<=n)/\(l.any q=false->n<0))/\KpL [] H U'.H):=by
 refine qCN qe func87 rfl (by kernel_rfl) ?_;obtain⟨res,hres⟩:∃res,res=l.any q:=⟨_,rfl⟩;rw[<- hres];simp;refine qC2 l (fun d ev U=>ev 0=.sl 4 (l.map qt) tok/\ev 1=.fn c [] cfr/\ev 7=.int .i64 l.length/\ev 8=.int .i64 d.length/\KpL [] H U.H/\res=(l.drop d.length).any q) ?_ ?_ ?_
 . exact⟨by simp,by simp,by simp,by simp,qDh,by simpa using hres⟩
 . rintro d e rest ev ⟨H1,T1⟩ R hR hd hx hlt ⟨e0,e1,e7,e8,hk,hr⟩;have hdw:=wr (n:=(d.length:Int)+1) (by omega) (by omega);have hc1:=hc e (qyG hx) H1 T1 hk;have hdr:l.drop d.length=e::l.drop (d.length+1):=by
    obtain⟨h1,h2⟩:=qyF.1 hx;rw[qy1 h1,h2]
   rw[hdr,qAS]at hr;simp[-qW,e0,e1,e7,e8,show(d.length:Int)<l.length by omega,hx,KV];refine qCQ hc1 ?_;rintro r ⟨H2,T2⟩ ⟨rfl,hk2⟩
   cases hq:q e with
   | true=>
    rw[hq,Bool.true_or]at hr;subst hr;simp[e8];exact hk.trans hk2
   | false=>
    rw[hq,qBf]at hr;simp[e8,hdw];exact hR _ _ ⟨by simp[e0],by simp[e1],by simp[e7],by simp,hk.trans hk2,by rw[qyK];exact hr⟩
 rintro ev ⟨H1,T1⟩ ⟨e0,e1,e7,e8,hk,hr⟩;have:res=false:=by rw[hr,qz2];rfl
 subst this;simp[e7,e8];exact hk
def qdd{c:Nat}{cfr:List AV}(q:Ex->Bool)(l:List Ex)(hl:l.length<=50000)(tok:Abs.Tok)(H:List Blk)(T:List (Option Nat))
 (hc:∀e∈l,∀(H':List Blk) (T':List (Option Nat)),KpL [] H H'->qf prog GG c (.agg (qt e)::cfr) ⟨H',T'⟩ (fun r U'=>r=.bool (q e)/\KpL [] H' U'.H)):
 qf prog GG 45 [.sl 4 (l.map qt) tok,.fn c [] cfr] ⟨H,T⟩ (fun r U'=>r=.bool (l.any q)/\KpL [] H U'.H):=by
 refine qCN qe func45 rfl (by kernel_rfl) ?_;have hi:=ql6 q l hl tok H T hc;generalize l.any q=res at *;simp;refine qCQ hi ?_;rintro r ⟨H1,T1⟩ ⟨⟨n,rfl,h1,h2⟩,hk⟩
 cases res with
 | true=>
  have:=h1 rfl;simp[this];exact hk
 | false=>
  have:¬(0<=n):=by have:=h2 rfl;omega
  simp[this];exact hk
def qhq{s H}(hq:VQ s.p)(hs:SpOk s H){r a}(haf:Fits a)(hfr:∀H',KpL [] H H'->Leq (frz H' 8 r) (.sl 1 (a.map qq) .none)){e}(hwe:Wen e)(hh:hgt e<=1000)(hsz:(pre e).length<=100000){B1 B2}(h1:H[B1]?=some (.cells [.ptr s.S 0]))(h2:H[B2]?=some (.cells [r]))(T):
 qf prog GG 46 [.agg (qt e),.ptr B1 0,.ptr B2 0] ⟨H,T⟩ (fun v U'=>v=.bool (!jw s.p a e)/\KpL [] H U'.H):=by
 refine qCN qe func46 rfl (by kernel_rfl) ?_;have hS:=hs.c;have hh1:=qex s.p a e hq haf hwe hh hsz;generalize jw s.p a e=res at *;simp only[spE,qA,qy3,qy2]at hS;simp only[qA,qd e]at hh1;simp only[qd e];have k1:=qa h1;have k2:=qa h2;have k3:=qa hS;simp[k1,k2,k3];refine qCP hh1 rfl ?_ ?_
 . simp only[qyR,qzj,zq,and_true];refine⟨?_,hfr _ qDj,?_⟩
   . rw[qS (by simp)];exact qCT _
   rw[qS (by simp)];exact qCT _
 simp[unA];exact qDj
def qdR{s H}(hq:VQ s.p)(hs:SpOk s H)(hl:s.R.length<=50000){r a}(haf:Fits a)(hbx:qW r=some [r])(hfr:∀H',KpL [] H H'->Leq (frz H' 8 r) (.sl 1 (a.map qq) .none))(hx:∀e∈s.R,Wen e/\hgt e<=1000/\(pre e).length<=100000)(T):
 qf prog GG 22 [.ptr s.S 0,r] ⟨H,T⟩ (fun v U'=>v=.bool (s.R.all (jw s.p a))/\KpL [] H U'.H):=by
 refine qCN qe func22 rfl (by kernel_rfl) ?_;have hS:=hs.c;have hk0:KpL [] H (H++[.cells [.ptr s.S 0],.cells [r]]):=qDj;have hcon:=qdd (c:=46) (cfr:=[.ptr H.length 0,.ptr (H.length+1) 0]) (fun e=>!jw s.p a e) s.R hl s.rtok (H++[.cells [.ptr s.S 0],.cells [r]]) T (fun e he H' T' hk=>by
  obtain⟨x1,x2,x3⟩:=hx e he;have hkk:=hk0.trans hk;exact qhq hq (hs.keep hkk (by simp) (by simp) (by simp)) haf (fun H2 hk2=>hfr _ (hkk.trans hk2)) x1 x2 x3 (hk.2 _ _ lk0 (by simp)) (hk.2 _ _ lk1 (by simp)) T')
 have hany:(!s.R.any fun e=>!jw s.p a e)=s.R.all (jw s.p a):=by simp[List.all_eq_not_any_not]
 generalize (s.R.any fun e=>!jw s.p a e)=res at *;rw[<- hany];simp only[spE,qA,qy3,qy2]at hS;have k1:=qa hS;simp[-qW,hbx,k1,show qW (.ptr s.S 0)=some [.ptr s.S 0] from rfl];refine qCQ hcon ?_;rintro v ⟨H1,T1⟩ ⟨rfl,hk1⟩;simp[unA];exact hk0.trans hk1
def qeR(ok:List Int->Bool)(vs:List Var)(pre:List Int):Nat:=(jF vs).countP fun x=>ok (pre++x)
def qmH(ok pre):qeR ok [] pre=if ok pre then 1 else 0:=by
 simp[qeR,jF,qCt]
def qqC(ok){v}(h:v.mode=0)(vs pre):qeR ok (v::vs) pre=qeR ok vs (pre++[v.value]):=by
 unfold qeR;rw[Kp h,qBR];congr 1;funext x;simp
def qmF(ok:List Int->Bool)(vs:List Var)(pre:List Int)(k:Nat):Nat:=((List.range k).flatMap fun n:Nat=>(jF vs).map ((n:Int)::·)).countP fun x=>ok (pre++x)
def qqD(ok){v}(h:¬v.mode=0)(vs pre):qeR ok (v::vs) pre=qmF ok vs pre (2^v.width.toNat):=by
 unfold qeR qmF;rw[Kq h];rfl
def qbQ(ok vs pre k):qmF ok vs pre (k+1)=qmF ok vs pre k+qeR ok vs (pre++[(k:Int)]):=by
 unfold qmF qeR;rw[qAc,List.flatMap_append,List.countP_append];congr 1;simp only[qy5,qBj,qzp,qBR];congr 1;funext x;simp
def qjn(ok vs pre):∀k,qmF ok vs pre k<=k*(jF vs).length
 |0=>by simp[qmF]
 | k+1=>by
  have h1:=qjn ok vs pre k;have h2:qeR ok vs (pre++[(k:Int)])<=(jF vs).length:=qCw;rw[qbQ,qA8];omega
def qdp{v}(h:¬v.mode=0)(vs):(jF (v::vs)).length=2^v.width.toNat*(jF vs).length:=by
 rw[QK,QK];simp only[qyR,qA4,if_neg h,qBq]
def qdo{v}(h:v.mode=0)(vs):(jF (v::vs)).length=(jF vs).length:=by
 rw[QK,QK];simp only[qyR,qA4,if_pos h,qz9]
structure EnB where
 A:Nat
 P:Nat
 N:Nat
 V:Nat
 AL:Nat
structure EnOk(B:EnB)(s rv a n H):Prop where
 sp:SpOk s H
 fa:H[B.A]?=some (.cells [rv])
 fp:H[B.P]?=some (.cells [.ptr s.S 0])
 fn:H[B.N]?=some (.cells [.int .i64 (n:Nat)])
 fv:H[B.V]?=some (.cells [.fn 44 [] [.ptr B.A 0,.ptr B.P 0,.ptr B.N 0,.ptr B.V 0]])
 fr:qgD B.AL H rv a
 ne:B.N≠B.AL
 o:∀b∈[B.A,B.P,B.V,s.S,s.L,s.LL],b≠B.N/\b≠B.AL
def EnOk.keep{B s rv a n H H'}(h:EnOk B s rv a n H)(hk:KpL [] H H'):EnOk B s rv a n H' :=
 ⟨h.sp.keep hk (by simp) (by simp) (by simp),hk.2 _ _ h.fa (by simp),hk.2 _ _ h.fp (by simp),hk.2 _ _ h.fn (by simp),hk.2 _ _ h.fv (by simp),h.fr.imp id fun⟨h1,h2,h3⟩=>⟨h1,h2,hk.2 _ _ h3 (by simp)⟩,h.ne,h.o⟩
def EnOk.setN{B s rv a n H}(h:EnOk B s rv a n H)(m):EnOk B s rv a m (H.set B.N (.cells [.int .i64 (m:Nat)])):=by
 have hl:=(qyF.1 h.fn).1;have hk:KpL [B.N] H (H.set B.N (.cells [.int .i64 (m:Nat)])):=qDk (by simp);have ho:=h.o;exact⟨h.sp.keep hk (by simpa using(ho s.S (by simp)).1) (by simpa using(ho s.L (by simp)).1) (by simpa using(ho s.LL (by simp)).1),hk.2 _ _ h.fa (by simpa using(ho B.A (by simp)).1),hk.2 _ _ h.fp (by simpa using(ho B.P (by simp)).1),qyL hl,hk.2 _ _ h.fv (by simpa using(ho B.V (by simp)).1),
  h.fr.imp id fun⟨h1,h2,h3⟩=>⟨h1,h2,hk.2 _ _ h3 (by simpa using Ne.symm h.ne)⟩,h.ne,h.o⟩
def EnOk.setA{B s rv a n H}(h:EnOk B s rv a n H)(ha:a≠[])(i x):EnOk B s rv (a.set i x) n (H.set B.AL (.cells (zw (a.set i x)))):=by
 rcases h.fr with⟨h0,-⟩|⟨h1,h2,h3⟩
 . exact absurd h0 ha
 have hl:=(qyF.1 h3).1;have hk:KpL [B.AL] H (H.set B.AL (.cells (zw (a.set i x)))):=qDk (by simp);have ho:=h.o;exact⟨h.sp.keep hk (by simpa using(ho s.S (by simp)).2) (by simpa using(ho s.L (by simp)).2) (by simpa using(ho s.LL (by simp)).2),hk.2 _ _ h.fa (by simpa using(ho B.A (by simp)).2),hk.2 _ _ h.fp (by simpa using(ho B.P (by simp)).2),hk.2 _ _ h.fn (by simpa using h.ne),hk.2 _ _ h.fv (by simpa using(ho B.V (by simp)).2),
  .inr ⟨by simpa using ha,by rw[qzZ];exact h2,qyL hl⟩,h.ne,h.o⟩
noncomputable def okE(s:Spc)(a:List Int):Bool:=s.R.all (jw s.p a)
def EnQ(B:EnB)(s:Spc)(rv:AV)(i:Nat)(a:List Int)(n:Nat)(H:List Blk)(r:AV)(U':St):Prop :=
 KpL [B.N,B.AL] H U'.H/\∃a',a'.length=a.length/\a'.take i=a.take i/\EnOk B s rv a' (n+qeR (okE s) (s.p.vars.drop i) (a.take i)) U'.H
def qgD.ac{b H v a}(h:qgD b H v a):qW v=some [v]:=by
 rcases h with⟨-,sz,tok,rfl⟩|⟨-,rfl,-⟩<;>rfl
def qgD.ln{b H v a}(h:qgD b H v a)(U):JO (Dof prog) U 35 v=some (.int .i64 (a.length:Nat)):=by
 rcases h with⟨rfl,sz,tok,rfl⟩|⟨h0,rfl,hb⟩<;>simp
def qi4{B s}(hq:VQ s.p)(hv:∀v∈s.p.vars,0<=v.width/\v.width<=20)(hRl:s.R.length<=50000)(hx:∀e∈s.R,Wen e/\hgt e<=1000/\(pre e).length<=100000)(rv):
 ∀ (k i:Nat) (a) (n),i+k=s.p.vars.length->a.length=s.p.vars.length->n+(jF (s.p.vars.drop i)).length<=2^24->∀(H) (T),EnOk B s rv a n H ->
  qf prog GG 44 [.int .i64 i,.ptr B.A 0,.ptr B.P 0,.ptr B.N 0,.ptr B.V 0] ⟨H,T⟩ (EnQ B s rv i a n H):=by
 intro k
 induction k with
 | zero=>
  intro i a n hik hal hn H T ok;refine qCN qe func44 rfl (by kernel_rfl) ?_;obtain⟨hsp,bA,bP,bN,bV,hr,hne,ho⟩:=id ok;have hln:=hr.ln;have hd:s.p.vars.drop i=[]:=qzf (by omega);rw[hd]at hn;have hn:n+1<=2^24:=by simpa[jF] using hn
  have hl:=hq.vars;have hfr:∀H',KpL [] H H'->Leq (frz H' 8 rv) (.sl 1 (a.map qq) .none):=fun H' hk=>by
   have:=(qgD.frz (b:=B.AL) (H:=H') (v:=rv) (a:=a) (hr.imp id fun⟨h1,h2,h3⟩=>⟨h1,h2,hk.2 _ _ h3 (by simp)⟩) 7).2.1;exact this
  have hso:=qdR hq hsp hRl (r:=rv) (a:=a) (by unfold Fits;omega) hr.ac hfr hx T;have fin:EnQ B s rv i a n H=fun r U'=>KpL [B.N,B.AL] H U'.H/\∃a',a'.length=a.length/\a'.take i=a.take i/\EnOk B s rv a' (n+if okE s a then 1 else 0) U'.H:=by
   funext r U';unfold EnQ;rw[show qeR (okE s) (s.p.vars.drop i) (a.take i)=if okE s a then 1 else 0 by rw[hd,qmH,qyN (by omega)]]
  rw[fin];change qf _ _ _ _ _ (fun v U'=>v=.bool (okE s a)/\_) at hso;generalize okE s a=res at *;simp[-JO,bA,bP,hln,show(i:Int)=a.length by omega];refine qCQ hso ?_;rintro r ⟨H1,T1⟩ ⟨rfl,hk1⟩;have ok1:=ok.keep hk1;have bN1:=ok1.fn;have lN1:=(qyF.1 bN1).1;have hw:=wr (n:=(n:Int)+1) (by omega) (by omega)
  cases res with
  | false=>
   simp;exact⟨hk1.sub (by simp),a,rfl,rfl,ok1⟩
  | true=>
   simp[bN1,hw];exact⟨(hk1.sub (by simp)).trans (qDk (by simp)),a,rfl,rfl,by have:=ok1.setN (n+1);simpa using this⟩
 | succ k ih=>
  intro i a n hik hal hn H T ok;refine qCN qe func44 rfl (by kernel_rfl) ?_;obtain⟨hsp,bA,bP,bN,bV,hr,hne,ho⟩:=id ok;have hia:i<a.length:=by omega
  have ha0:a≠[]:=fun e=>by rw[e]at hia;simp at hia
  obtain⟨v,hvi⟩:∃v,s.p.vars[i]?=some v:=⟨_,qyH (by omega)⟩;have hvw:=hv v (qyG hvi);have hdr:s.p.vars.drop i=v::s.p.vars.drop (i+1):=by
   obtain⟨h1,h2⟩:=qyF.1 hvi;rw[qy1 h1,h2]
  have hl:=hq.vars;rcases hr with⟨h0,-⟩|⟨-,hrv,bAL⟩
  . exact absurd h0 ha0
  subst hrv;have hS:=hsp.c;simp only[spE,qA,qy3,qy2]at hS;have kA:=qa bA;have kP:=qa bP;have kL:=qa bAL;have hni:¬(i:Int)=a.length:=by omega
  have hia':(i:Int)<a.length:=by omega
  have hil':(i:Int)<s.p.vars.length:=by omega
  have hla:i+1<=a.length:=hia;have hset:∀(a:List Int) x,(zw a).set i (.int .i64 x)=zw (a.set i x):=fun a x=>by simp[zw,qBQ]
  have hwi:=wr (n:=(i:Int)+1) (by omega) (by omega);have htk:∀(a':List Int) x,a'.length=a.length->a'.take i=a.take i->(a'.set i x).take (i+1)=a.take i++[x]:=fun a' x h1 h2=>by
   rw[qzb,qyL (by omega),List.take_set_of_le (qyQ _),h2];rfl
  by_cases hm:v.mode=0
  . have hcs:=qqC (okE s) hm (s.p.vars.drop (i+1)) (a.take i);rw[hdr,qdo hm]at hn;have ok1:=(ok.keep (H':=H++[.cells (qD v)]) qDj).setA ha0 i v.value;have hih:=ih (i+1) (a.set i v.value) n (by omega) (by simpa using hal) hn _ T ok1;have bV1:=ok1.fv;simp only[qD,hm]at hih bV1;rw[show(((i+1:Nat)):Int)=(i:Int)+1 by omega]at hih;simp[kA,kL,bA,bP,hS,hvi,hia',hni,hm,hset,hla,qY,bV1,hwi];refine qCQ hih ?_;rintro r ⟨H1,T1⟩ ⟨hk1,a',l1,l2,ok2⟩;simp;refine⟨qDi (qDi qDj (qDk (by simp))) hk1,a',by simpa using l1,?_,?_⟩
    . have:=congrArg (List.take i) l2;rw[htk a v.value rfl rfl]at this;simpa[qCx,qAb (by omega:i<=i+1),qAb (by omega:i<=a.length)] using this
    rw[hdr,hcs]
    rwa[htk a v.value rfl rfl]at ok2
  have hcs:=qqD (okE s) hm (s.p.vars.drop (i+1)) (a.take i);have hcl:=fun k=>qjn (okE s) (s.p.vars.drop (i+1)) (a.take i) k
  have hsu:=fun k=>qbQ (okE s) (s.p.vars.drop (i+1)) (a.take i) k
  rw[hdr,qdp hm]at hn;have hs1:=vy hvw.1 (by omega);have hNb:2^v.width.toNat<=2^20:=qzc (by omega) (by omega);have fin:EnQ B s (.ms B.AL 0 a.length 1) i a n H=fun r U'=>KpL [B.N,B.AL] H U'.H/\∃a',a'.length=a.length/\a'.take i=a.take i/\EnOk B s (.ms B.AL 0 a.length 1) a' (n+qmF (okE s) (s.p.vars.drop (i+1)) (a.take i) (2^v.width.toNat)) U'.H:=by
   funext r U';unfold EnQ;rw[hdr,hcs]
  rw[fin];generalize 2^v.width.toNat=W at *;simp[kA,kL,bA,bP,hS,hvi,hia',hni,hm,show ¬v.width<0 by omega,hs1,IntKind.bits];refine yF W (fun k ev U=>ev 0=.int .i64 i/\ev 1=.ptr B.A 0/\ev 2=.ptr B.P 0/\ev 3=.ptr B.N 0/\ev 4=.ptr B.V 0/\ev 39=.int .i64 W/\ev 40=.int .i64 k/\KpL [B.N,B.AL] H U.H/\∃a',a'.length=a.length/\a'.take i=a.take i/\EnOk B s (.ms B.AL 0 a.length 1) a' (n+qmF (okE s) (s.p.vars.drop (i+1)) (a.take i) k) U.H) ?_ ?_ ?_
  . exact⟨by simp,by simp,by simp,by simp,by simp,by simp,by simp,qDj,a,rfl,rfl,ok.keep qDj⟩
  . rintro k ev ⟨H1,T1⟩ R hR hkW ⟨e0,e1,e2,e3,e4,e39,e40,hk1,a',l1,l2,ok1⟩;have hwk:=wr (n:=(k:Int)+1) (by omega) (by omega);have hmul:(k+1)*(jF (s.p.vars.drop (i+1))).length<=W*(jF (s.p.vars.drop (i+1))).length:=qzx _ hkW;rw[qA8]at hmul;have hck:=hcl k;have ha0':a'≠[]:=fun e=>by rw[e]at l1;simp at l1;omega
    obtain⟨hsp1,bA1,bP1,bN1,bV1,hr1,-,-⟩:=id ok1;rcases hr1 with⟨h0,-⟩|⟨-,hrv1,bAL1⟩
    . exact absurd h0 ha0'
    have ok2:=ok1.setA ha0' i (k:Int);have bV2:=ok2.fv;have hih:=ih (i+1) (a'.set i (k:Int)) _ (by omega) (by simp;omega) (qzs (Nat.add_le_add_right (Nat.add_le_add_left hck n) _) (by omega)) _ T1 ok2;rw[show(((i+1:Nat)):Int)=(i:Int)+1 by omega]at hih;simp[e0,e1,e4,e39,e40,show(k:Int)<W by omega,bA1,bAL1,hia',hset,show i+1<=a'.length by omega,qY,bV2,hwi];refine qCQ hih ?_;rintro r ⟨H2,T2⟩ ⟨hk2,a2,m1,m2,ok3⟩;rw[htk a' k l1 l2]at m2 ok3;simp[e40,hwk];refine hR _ _ ⟨by simp[e0],by simp[e1],by simp[e2],by simp[e3],by simp[e4],by simp[e39],by simp,hk1.trans (qDi (qDk (by simp)) hk2),a2,by rw[m1,qzZ,l1],?_,?_⟩
    . have:=congrArg (List.take i) m2;simpa[qCx,qAb (by omega:i<=i+1),qAb (by omega:i<=a.length)] using this
    rwa[hsu,<- qAR]
  rintro ev ⟨H1,T1⟩ ⟨e0,e1,e2,e3,e4,e39,e40,hk1,a',l1,l2,ok1⟩;simp[e39,e40];exact⟨hk1,a',l1,l2,ok1⟩
