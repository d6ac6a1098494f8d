import Derived.Test.YtafbccendejkeaaGreatDoorPt29
import Derived.RangeFuncBox
import Derived.RangeFuncLeaves
import Derived.Shelf.Abstract
import Derived.WalkKit
import Derived.OwnWalkIn
import Derived.TacticsInMore
import Derived.LoopNIn
import Derived.LoopIn
import Derived.RegionIn
import Derived.OrdersIn
import Derived.SizedLaws
import Derived.Test.YtafbccendejkeaaGreatDoorRows
import Derived.Test.YtafbccendejkeaaGreatDoorTie
import Derived.Test.YtafbccendejkeaaGreatDoorCards
import Derived.ProofKit
import Derived.LaidMore
import Derived.OpenShut
import Derived.Stop.Joined
import Derived.SevenTiedAt
import Derived.WideKeyArgs
import Derived.MakeChecks
set_option maxHeartbeats 16000000
set_option maxRecDepth 100000
set_option linter.all false
set_option linter.defProp false
namespace Go.Proofs.YtafbccendejkeaaGreatDoor
open Go Go.Abs Proofs.Tryz Go.RowKit Go.Shelf Go.ChangeShapes Go.WideShapes Go.ChangeAt
def NG(p:Problem):List (List Nat):=p.groups.map fun g=>g.map Int.toNat
def yC(g:List Nat):List AV:=[.sl 1 (g.map zL) .none]
def V0{p}(h:qk p=0):p.groups.map qx=(NG p).map yC:=by
 unfold NG;rw[qBR];refine qBv fun g hg=>?_
 simp only[qx,yC,Function.comp,qBR];congr 2;refine qBv fun i hi=>?_
 obtain⟨n,rfl,_⟩:=YD h i (qAX.2 ⟨g,hg,hi⟩);simp[zL]
def Zr{p}(h:qk p=0):p.groups.flatten=(NG p).flatten.map fun n:Nat=>(n:Int):=by
 unfold NG;have:∀(G:List (List Int)),(∀i∈G.flatten,∃n:Nat,i=n)->G.flatten=(G.map fun g=>g.map Int.toNat).flatten.map fun n:Nat=>(n:Int):=by
  intro G hG
  induction G with
  |nil=>rfl
  | cons g r ih=>
   rw[qBb,qAz,qBb,qBp,<- ih fun i hi=>hG i (by simp at hi⊢;exact .inr hi),qBR];congr 1;have:g=g.map id:=by simp
   rw[this,qBR];refine qBv fun i hi=>?_
   obtain⟨n,rfl⟩:=hG i (by simp[hi]);simp
 exact this _ fun i hi=>by obtain⟨n,h1,_⟩:=YD h i hi;exact⟨n,h1⟩
def AsR(r:AV)(a:List Int)(H:List Blk):Prop:=(∃tok,r=.sl 1 (a.map qh) tok)\/∃N,r=.ms N 0 a.length 1/\H[N]?=some (.cells (zc a))
def AsR.at{r}{a:List Int}{H}(h:AsR r a H){j:Nat}{x:Int}(hj:a[j]?=some x):∃u,zE (Dof prog) 28 r (.int .i64 (j:Int))=some u/\∀w T,kx (Dof prog) ⟨H++w,T⟩ 3 u=some (.int .i64 x):=by
 have hl:=(qAm.1 hj).1;rcases h with⟨tok,rfl⟩|⟨N,rfl,hN⟩
 . exact⟨.rptr [.int .i64 x],by simp[hj],fun w T=>by simp⟩
 have hl':(j:Int)<a.length:=by omega
 have hl1:j+1<=a.length:=hl;have hdr:(zc a).drop j=.int .i64 x::(zc a).drop (j+1):=by
  obtain⟨h1,h2⟩:=qAm.1 (by rw[qaZ,hj];rfl);rw[qAJ h1,h2]
 exact⟨.ptr N j,by simp[hl'],fun w T=>by simp[qd hN,hdr,qS,hl1]⟩
def AsR.at0{r}{a:List Int}{H}(h:AsR r a H){j:Nat}{x:Int}(hj:a[j]?=some x):∃u,zE (Dof prog) 28 r (.int .i64 (j:Int))=some u/\∀T,kx (Dof prog) ⟨H,T⟩ 3 u=some (.int .i64 x):=by
 obtain⟨u,h1,h2⟩:=h.at hj;exact⟨u,h1,fun T=>by have:=h2 [] T;rwa[qA6]at this⟩
def AsR.len{r a H}(h:AsR r a H)(U):YA (Dof prog) U 28 r=some (.int .i64 (a.length:Nat)):=by
 rcases h with⟨tok,rfl⟩|⟨N,rfl,_⟩<;>simp
def AsR.keep{r a H H' bs}(h:AsR r a H)(hk:KpL bs H H')(hb:∀N o n z,r=.ms N o n z->N∉bs):AsR r a H':=by
 rcases h with h|⟨N,rfl,hN⟩
 . exact .inl h
 exact .inr ⟨N,rfl,hk.2 _ _ hN (hb _ _ _ _ rfl)⟩
def aN(a:List Int)(i:Nat):Nat:=(a.getD i 0).toNat
def ZN(s:Spc)(d:List Nd)(a:List Int)(l:List Nat):Nat:=l.foldl (fun node i=>vz d (Jp s.lv i) (jz s.p i) (aN a i) node (jz s.p i)) s.root
def Vh(s:Spc)(a:List Int)(l:List Nat):List Ex:=s.R++l.map fun i=>eqE (Yk s.p i) (aN a i:Int)
structure SpG(s)(a:List Int)(l):Prop where
 gr:qtA s l
 val:∀i∈l,∃n:Nat,a[i]?=some (n:Int)/\n<65536
def qkq{g:List Nat}{tok:Abs.Tok}{k i:Nat}(h:g[k]?=some i):zE (Dof prog) 28 (.sl 1 (g.map zL) tok) (.int .i64 (k:Int))=some (.rptr [.int .i64 (i:Int)]):=by simp[h,zL]
def qpz{U:St}{i:Nat}:kx (Dof prog) U 3 (.rptr [.int .i64 (i:Int)])=some (.int .i64 (i:Int)):=by simp
def qfM:List (Nat×Sch×List Nat):=[(21,.step 0 [11,10,9,8,1] (.step 1 [11,10,9,8] (.step 2 [11,10,9,8] (.step 3 [11,10,9,8] (.step 4 [11,10,9,8,7,6] (.step 5 [11,10,9,8,7,6] (.step 6 [11,10,9,8,7] (.step 7 [11,10,9,8] (.step 8 [11,10,9] (.step 9 [11,10] (.step 10 [11] (.step 11 [] (.done)))))))))))),[8])]
def qpa{G:List (List Nat)}{gi}(h:gi<=G.length):zj (.sl 1 (G.map yC) .none) none (some (.int .i64 (gi:Int))) none=some (.sl 1 ((G.take gi).map yC) .none):=by
 simp[zj,zS,y8,zU,h]
def qqN{s}(hvp:qk s.p=0)(hsm:s.small=true){d tok}(hd:DagOk d)(hdv:s.dv=.sl 3 (d.map qH) tok)(hroot:s.root<d.length){fx}(hfx:∀i x,fx i=some x->x<65536){m gi g}(hgi:(NG s.p)[gi]?=some g)(hgl:∀g∈NG s.p,g.length<=1000)(hGl:(NG s.p).length<=1000)
 {r a H} (hg:qtA s g) (hpre:SpG s a ((NG s.p).take gi).flatten) (hs:SpOk s H) (hf:qiy m fx H) (ha:AsR r a H) (T) :
 qg prog GG 44 [.ptr s.S 0,.int .i64 gi,r,m] ⟨H,T⟩ (fun v U'=>v=.int .i64 (qbm s.p s.lv d fx g (ZN s d a ((NG s.p).take gi).flatten):Nat)/\KpL [] H U'.H):=by
 refine qEH ⟨false,qfM,[],[]⟩ qe func44 rfl (by kernel_rfl) ?_;have hS:=hs.c;have hgil:=(qAm.1 hgi).1;have hgil':(gi:Int)<(NG s.p).length:=by omega
 have hG:=V0 hvp;simp only[spE,qt,qAL,qAK,hsm,hdv,hG]at hS;have hsl:=qpa (G:=NG s.p) (gi:=gi) (by omega);have htl:((NG s.p).take gi).length<=1000:=by rw[qA8];omega
 have htm:∀g∈(NG s.p).take gi,g.length<=1000:=fun g hg=>hgl g (qBa hg)
 obtain⟨PG,hPG⟩:∃PG,PG=(NG s.p).take gi:=⟨_,rfl⟩;rw[<- hPG]at hsl htl htm hpre⊢;simp[hS,hgi,yC,hsl];have hgg:=hgl g (qAn hgi);refine qEZ PG (fun dn ev U=>ev 0=.ptr s.S 0/\ev 2=r/\ev 3=m/\ev 9=.sl 1 (g.map zL) .none/\ev 10=.int .i64 (ZN s d a dn.flatten:Nat)/\ev 42=.sl 1 (PG.map yC) .none/\ev 43=.int .i64 PG.length/\ev 44=.int .i64 dn.length/\ZN s d a dn.flatten<d.length/\KpL [] H U.H) ?_ ?_ ?_
 . exact⟨by simp,by simp,by simp,by simp,by simp[ZN],by simp,by simp,by simp,hroot,qFf⟩
 . rintro dn g1 rest ev ⟨H1,T1⟩ R hR hdl hx hlt ⟨e0,e2,e3,e9,e10,e42,e43,e44,hnl,hkp⟩;have hdw:=wr (n:=(dn.length:Int)+1) (by omega) (by omega);have hg1m:=qAn hx;have hg1l:=htm g1 hg1m;simp[e42,e43,e44,show(dn.length:Int)<PG.length by omega,hx,yC];refine qEZ g1 (fun dg ev U=>ev 0=.ptr s.S 0/\ev 2=r/\ev 3=m/\ev 9=.sl 1 (g.map zL) .none/\ev 10=.int .i64 (ZN s d a (dn.flatten++dg):Nat)/\ev 42=.sl 1 (PG.map yC) .none/\ev 43=.int .i64 PG.length/\ev 44=.int .i64 dn.length/\ev 48=.sl 1 (g1.map zL) .none/\ev 49=.int .i64 g1.length/\ev 50=.int .i64 dg.length/\ZN s d a (dn.flatten++dg)<d.length/\KpL [] H U.H) ?_ ?_ ?_
   . exact⟨by simp[e0],by simp[e2],by simp[e3],by simp[e9],by simp[e10],by simp[e42],by simp[e43],by simp[e44],by simp,by simp,by simp,by simpa using hnl,hkp⟩
   . rintro dg i rest2 ev ⟨H2,T2⟩ R2 hR2 hdl2 hx2 hlt2 ⟨e0,e2,e3,e9,e10,e42,e43,e44,e48,e49,e50,hnl2,hkp2⟩;have hdw2:=wr (n:=(dg.length:Int)+1) (by omega) (by omega);have him:=qAX.2 ⟨g1,hg1m,qAn hx2⟩;obtain⟨v,l,hv,hw0,hw8,hl,hl20,_⟩:=hpre.gr i him;obtain⟨n,hna,hn16⟩:=hpre.val i him;have hs2:=hs.keep hkp2 (by simp) (by simp) (by simp);have ha2:=ha.keep hkp2 (by simp);obtain⟨u,hu1,hu2⟩:=ha2.at0 hna;have hdes:=VS hs2 hd hdv hv hl ⟨hw0,hw8⟩ hl20 hnl2 (val:=n) (by omega) T2;have hsn:ZN s d a (dn.flatten++(dg++[i]))=vz d l v.width.toNat n (ZN s d a (dn.flatten++dg)) v.width.toNat:=by
      rw[<- qA4];unfold ZN;rw[qBj];simp only[qA1,List.foldl_nil,show Jp s.lv i=l by simp[Jp,qAx,hl],show jz s.p i=v.width.toNat by simp[jz,zM,hv],show aN a i=n by simp[aN,qAx,hna]]
     have hnl3:=YJ hd hnl2 l v.width.toNat n v.width.toNat;rw[<- hsn]at hdes hnl3;have hix:=qkq (tok:=.none) hx2;generalize ZN s d a (dn.flatten++dg)=nd at *;generalize hn2:ZN s d a (dn.flatten++(dg++[i]))=nd2 at *;simp[-zE,-kx,e0,e2,e10,e48,e49,e50,show(dg.length:Int)<g1.length by omega,hix,qpz,hu1,hu2];refine qEM hdes ?_;rintro w ⟨H3,T3⟩ ⟨rfl,hk3⟩;simp[e50,hdw2];exact hR2 _ _ ⟨by simp[e0],by simp[e2],by simp[e3],by simp[e9],by simp,by simp[e42],by simp[e43],by simp[e44],by simp[e48],by simp[e49],by simp,by first|exact hnl3|(rw[hn2];exact hnl3),hkp2.trans hk3⟩
   rintro ev ⟨H2,T2⟩ ⟨e0,e2,e3,e9,e10,e42,e43,e44,e48,e49,e50,hnl2,hkp2⟩;simp[e44,e49,e50,hdw];exact hR _ _ ⟨by simp[e0],by simp[e2],by simp[e3],by simp[e9],by simp[e10],by simp[e42],by simp[e43],by simp,by simpa using hnl2,hkp2⟩
 rintro ev ⟨H1,T1⟩ ⟨e0,e2,e3,e9,e10,e42,e43,e44,hnl,hkp⟩;dsimp only at hkp;have hH1l:=hkp.1;have hs1:=hs.keep hkp (by simp) (by simp) (by simp);have hf1:=hf.keep hkp (by simp);have hSl:=(qAm.1 hs.c).1;obtain⟨cw,hL,hcw⟩:=hs.w;have hLl:=(qAm.1 hL).1;have hLLl:=hs.b;have hs2:=hs1.keep (H':=H1++[.map [] 0]) (bs:=[]) qFh (by simp) (by simp) (by simp);have hf2:=hf1.keep (H':=H1++[.map [] 0]) (bs:=[]) qFh (by simp);have hmF:∀F,m=.map F->F≠H1.length:=fun F hF=>by
  rcases hf1 with⟨rfl,_⟩|⟨F',es,n,rfl,hF',_⟩
  . cases hF
  cases hF;have:=(qAm.1 hF').1;omega
 have hsu:=qi2 hd hdv hfx hg hgg (K:=H1.length) (by omega) (by omega) (by omega) hmF g.length 0 (by omega) (ZN s d a PG.flatten) (H1++[.map [] 0]) T1 hnl hs2 hf2 ⟨[],0,lk0,by simp⟩;simp only[qBG]at hsu;simp[e0,e3,e9,e10,e43,e44,zs,zW,qM];refine qEM hsu ?_;rintro w ⟨H3,T3⟩ ⟨rfl,hk3,_⟩;simp;refine hkp.trans ⟨by have:=hk3.1;simp at this;omega,fun k x hk _=>hk3.2 _ _ (qd hk _) (by have:=(qAm.1 hk).1;simp;omega)⟩
def qqM{s}(hvq:VQ s.p)(hvp:qk s.p=0)(hv20:s.p.vars.length<=20)(hb:kl s.p.vars (qK s.p)<=18)(hsm:s.small=false)(hRk:∀e∈s.R,zy s.p.vars e=0/\Jf e)(hRl:s.R.length<=50000)(hrt:qsX s.R s.rtok){fx}(hfx:∀i x,fx i=some x->x<65536){m gi g}(hgi:(NG s.p)[gi]?=some g)(hgl:∀g∈NG s.p,g.length<=1000)(hGl:(NG s.p).length<=1000)(hfl:(NG s.p).flatten.length<=1000)
 {r a H} (hg:qtA s g) (hpre:SpG s a ((NG s.p).take gi).flatten) (hs:SpOk s H) (hf:qiy m fx H) (ha:AsR r a H) (T) :
 qg prog GG 44 [.ptr s.S 0,.int .i64 gi,r,m] ⟨H,T⟩ (fun v U'=>v=.int .i64 (qdV s.p fx g (Vh s a ((NG s.p).take gi).flatten):Nat)/\KpL [] H U'.H):=by
 refine qEH ⟨false,qfM,[],[]⟩ qe func44 rfl (by kernel_rfl) ?_;have hS:=hs.c;have hgil:=(qAm.1 hgi).1;have hgil':(gi:Int)<(NG s.p).length:=by omega
 have hG:=V0 hvp;simp only[spE,qt,qAL,qAK,hsm,hG]at hS;have hsl:=qpa (G:=NG s.p) (gi:=gi) (by omega);have htl:((NG s.p).take gi).length<=1000:=by rw[qA8];omega
 have htm:∀g∈(NG s.p).take gi,g.length<=1000:=fun g hg=>hgl g (qBa hg)
 have hfl2:((NG s.p).take gi).flatten.length<=1000:=by
  have:(NG s.p).flatten=((NG s.p).take gi).flatten++((NG s.p).drop gi).flatten:=by rw[<- qCk,qA9]
  rw[this,qAq]at hfl;omega
 obtain⟨PG,hPG⟩:∃PG,PG=(NG s.p).take gi:=⟨_,rfl⟩;rw[<- hPG]at hsl htl htm hpre hfl2⊢;simp[hS,hgi,yC,hsl];have hgg:=hgl g (qAn hgi);have hrl:∀l,(Vh s a l).length=s.R.length+l.length:=fun l=>by simp[Vh]
 refine qEZ PG (fun dn ev U=>ev 0=.ptr s.S 0/\ev 2=r/\ev 3=m/\ev 9=.sl 1 (g.map zL) .none/\(∃tok,ev 15=.sl 4 ((Vh s a dn.flatten).map qp) tok/\qsX (Vh s a dn.flatten) tok)/\ev 81=.sl 1 (PG.map yC) .none/\ev 82=.int .i64 PG.length/\ev 83=.int .i64 dn.length/\KpL [] H U.H) ?_ ?_ ?_
 . exact⟨by simp,by simp,by simp,by simp,⟨s.rtok,by simp[Vh],by simpa[Vh] using hrt⟩,by simp,by simp,by simp,qFf⟩
 . rintro dn g1 rest ev ⟨H1,T1⟩ R hR hdl hx hlt ⟨e0,e2,e3,e9,⟨tok,e15,htok⟩,e81,e82,e83,hkp⟩;have hdw:=wr (n:=(dn.length:Int)+1) (by omega) (by omega);have hg1m:=qAn hx;have hg1l:=htm g1 hg1m;simp[e81,e82,e83,show(dn.length:Int)<PG.length by omega,hx,yC];refine qEZ g1 (fun dg ev U=>ev 0=.ptr s.S 0/\ev 2=r/\ev 3=m/\ev 9=.sl 1 (g.map zL) .none/\(∃tok,ev 15=.sl 4 ((Vh s a (dn.flatten++dg)).map qp) tok/\qsX (Vh s a (dn.flatten++dg)) tok)/\ev 81=.sl 1 (PG.map yC) .none/\ev 82=.int .i64 PG.length/\ev 83=.int .i64 dn.length/\ev 87=.sl 1 (g1.map zL) .none/\ev 88=.int .i64 g1.length/\ev 89=.int .i64 dg.length/\KpL [] H U.H) ?_ ?_ ?_
   . exact⟨by simp[e0],by simp[e2],by simp[e3],by simp[e9],⟨tok,by simp[e15],by simpa using htok⟩,by simp[e81],by simp[e82],by simp[e83],by simp,by simp,by simp,hkp⟩
   . rintro dg i rest2 ev ⟨H2,T2⟩ R2 hR2 hdl2 hx2 hlt2 ⟨e0,e2,e3,e9,⟨tok,e15,htok⟩,e81,e82,e83,e87,e88,e89,hkp2⟩;have hdw2:=wr (n:=(dg.length:Int)+1) (by omega) (by omega);have him:=qAX.2 ⟨g1,hg1m,qAn hx2⟩;obtain⟨v,l,hv,hw0,hw8,hl,hl20,_⟩:=hpre.gr i him;obtain⟨n,hna,hn16⟩:=hpre.val i him;have hs2:=hs.keep hkp2 (by simp) (by simp) (by simp);have ha2:=ha.keep hkp2 (by simp);obtain⟨u,hu1,hu2⟩:=ha2.at0 hna;have heq:=qc5 hs2 hv (n:Int) T2;have hsn:Vh s a (dn.flatten++(dg++[i]))=Vh s a (dn.flatten++dg)++[eqE v.name (n:Int)]:=by
      have h2:Yk s.p i=v.name:=(by simp[Yk,hv]);have h3:aN a i=n:=(by simp[aN,qAx,hna]);simp[Vh,h2,h3]
     have hlen2:(Vh s a (dn.flatten++dg)).length<=60000:=by
      rw[hrl];have:(dn.flatten++dg).length<=PG.flatten.length:=by rw[hdl,hdl2];simp
      omega
     have hcl:=qle (Vh s a (dn.flatten++dg)) (que tok) htok.p;have hae:=yF (eqE v.name (n:Int));have hl4:=zh (eqE v.name (n:Int));have hap:=fun H T=>qaL (R:=Vh s a (dn.flatten++dg)) (X:=eqE v.name (n:Int)) (H:=H) (T:=T) (by omega)
     have hix:=qkq (tok:=.none) hx2;generalize Vh s a (dn.flatten++dg)=R0 at *;generalize eqE v.name (n:Int)=X at *;simp[-zE,-kx,e87,e88,e89,show(dg.length:Int)<g1.length by omega,hix,qpz];rw[qR rfl];simp[-qV,-zE,-kx,ze,e15];refine qEK hcl (by cases tok<;>simp) (by cases tok<;>simp[que]) ?_;simp[-qV,-zE,-kx,ze,e0,e2,hu1,hu2];refine qEM heq ?_;rintro w ⟨H3,T3⟩ ⟨rfl,hk3⟩;simp[-qV,ze,hae,hl4,qf,qm,hap,e89,hdw2];refine hR2 _ _ ⟨by simp[e0],by simp[e2],by simp[e3],by simp[e9],⟨.chain T3.length 1,by simp[hsn],by rw[hsn];exact .inl (by simp)⟩,by simp[e81],by simp[e82],by simp[e83],by simp[e87],by simp[e88],by simp,hkp2.trans hk3⟩
   rintro ev ⟨H2,T2⟩ ⟨e0,e2,e3,e9,⟨tok,e15,htok⟩,e81,e82,e83,e87,e88,e89,hkp2⟩;simp[e83,e88,e89,hdw];exact hR _ _ ⟨by simp[e0],by simp[e2],by simp[e3],by simp[e9],⟨tok,by simp[e15],by simpa using htok⟩,by simp[e81],by simp[e82],by simp,hkp2⟩
 rintro ev ⟨H1,T1⟩ ⟨e0,e2,e3,e9,⟨tok,e15,htok⟩,e81,e82,e83,hkp⟩;have hs1:=hs.keep hkp (by simp) (by simp) (by simp);have hf1:=hf.keep hkp (by simp);have hkn:∀e∈Vh s a PG.flatten,zy s.p.vars e=0/\Jf e:=fun e he=>by
  rcases qAC.1 he with he|he
  . exact hRk e he
  obtain⟨i,hi,rfl⟩:=qAN.1 he;obtain⟨v,l,hv,_⟩:=hpre.gr i hi;obtain⟨n,hna,hn16⟩:=hpre.val i hi;rw[show Yk s.p i=v.name by simp[Yk,hv],show aN a i=n by simp[aN,qAx,hna]];exact qgz hvq hvp hv (by omega) (by omega)
 have htr:=qms hvq hvp hv20 hb hfx (m:=m) g (Vh s a PG.flatten) tok H1 T1 hg hkn (by rw[hrl];omega) htok hs1 hf1;simp[e0,e3,e9,e15,e82,e83];refine qEM htr ?_;rintro w ⟨H3,T3⟩ ⟨rfl,hk3⟩;simp;exact hkp.trans hk3
def qdj{s H}(hs:SpOk s H)(hw:∀v∈s.p.vars,0<=v.width/\v.width<=8)(hvl:s.p.vars.length<=1000){r a}(ha:AsR r a H)(T) :
 qg prog GG 35 [.ptr s.S 0,r] ⟨H,T⟩ (fun v U'=>v=.bool (qC s.p.vars a)/\KpL [] H U'.H):=by
 refine qEI qe func35 rfl (by kernel_rfl) ?_;have hS:=hs.c;have hlen:=ha.len;simp only[spE,qt,qAL,qAK]at hS;obtain⟨res,hres⟩:∃res,res=qC s.p.vars a:=⟨_,rfl⟩;rw[<- hres];unfold qC at hres;by_cases hl:a.length=s.p.vars.length
 case neg=>
  have hl':¬(a.length:Int)=s.p.vars.length:=by omega
  have:res=false:=by rw[hres];simp[hl]
  subst this;simp[-YA,hlen,hS,show YA (Dof prog) ⟨H,T⟩ 22 (.sl 4 (s.p.vars.map qJ) .none)=some (.int .i64 (s.p.vars.length:Nat)) by simp,hl'];exact qFf
 simp[-YA,hlen,hS,show ∀U,YA (Dof prog) U 22 (.sl 4 (s.p.vars.map qJ) .none)=some (.int .i64 (s.p.vars.length:Nat)) from fun U=>by simp,show(a.length:Int)=s.p.vars.length by omega];refine qEZ s.p.vars (fun d ev U=>ev 1=r/\ev 20=.sl 4 (s.p.vars.map qJ) .none/\ev 21=.int .i64 s.p.vars.length/\ev 22=.int .i64 d.length/\KpL [] H U.H/\res=((s.p.vars.drop d.length).zip (a.drop d.length)).all zD) ?_ ?_ ?_
 . exact⟨by simp,by simp,by simp,by simp,qFf,by simpa using(by rw[hres];simp[hl])⟩
 . rintro d v rest ev ⟨H1,T1⟩ R hR hd hx hlt ⟨e1,e20,e21,e22,hkp,hr⟩;have hdw:=wr (n:=(d.length:Int)+1) (by omega) (by omega);have hlt':(d.length:Int)<s.p.vars.length:=(by omega);have hda:d.length<a.length:=(by omega);obtain⟨x,hax⟩:∃x,a[d.length]?=some x:=⟨_,qAo hda⟩;have hvd:s.p.vars.drop d.length=v::s.p.vars.drop (d.length+1):=by
    obtain⟨h1,h2⟩:=qAm.1 hx;rw[qAJ h1,h2]
   have had:a.drop d.length=x::a.drop (d.length+1):=by
    obtain⟨h1,h2⟩:=qAm.1 hax;rw[qAJ h1,h2]
   rw[hvd,had,qDP,qBH]at hr;have hwv:=hw v (qAn hx);have hs1:=wB hwv.1 (by omega);have hwn:¬v.width<0:=(by omega);have ha1:=ha.keep hkp (by simp);have hgo:∀ev' U',ev' 1=r->ev' 20=.sl 4 (s.p.vars.map qJ) .none->ev' 21=.int .i64 s.p.vars.length->ev' 22=.int .i64 (d.length+1:Nat)->KpL [] H U'.H->zD (v,x)=true->R ev' U':=fun ev' U' b1 b2 b3 b4 b5 b6=>hR _ _ ⟨b1,b2,b3,by rw[b4,qAq,qAQ],b5,by rw[hr,b6,qBC,qAq,qAQ]⟩
   have hbad:zD (v,x)=false->res=false:=fun h=>by rw[hr,h];rfl
   unfold zD at hgo hbad;simp only at hgo hbad;rw[<- show((2^v.width.toNat:Nat):Int)=(2:Int)^v.width.toNat by simp]at hgo hbad;generalize 2^v.width.toNat=N at *;have hnext:∀u,KpL [] H (H1++u):=fun u=>hkp.trans qFh
   rcases ha1 with⟨tok,rfl⟩|⟨A,rfl,hA⟩
   case' inr=>
    have hdr:(zc a).drop d.length=.int .i64 x::(zc a).drop (d.length+1):=by
     obtain⟨h1,h2⟩:=qAm.1 (by rw[qaZ,hax];rfl);rw[qAJ h1,h2]
    have hla:d.length+1<=a.length:=hda;have hdi:(d.length:Int)<a.length:=by omega
   all_goals
    by_cases hm:v.mode=0
    . by_cases hxv:x=v.value
      . subst hxv;by_cases hx0:v.value<0
        . have hb:=hbad (by simp;omega);subst hb
          first|simp[e1,e20,e21,e22,hlt',hx,qd hA,hdr,qS,hla,hdi,hm,hx0]|simp[e1,e20,e21,e22,hlt',hx,hax,hm,hx0]
          exact hnext _
        by_cases hxN:(N:Int)<=v.value
        . have hb:=hbad (by simp;omega);subst hb
          first|simp[e1,e20,e21,e22,hlt',hx,hwn,IntKind.bits,hs1,qd hA,hdr,qS,hla,hdi,hm,hx0,hxN]|simp[e1,e20,e21,e22,hlt',hx,hax,hwn,IntKind.bits,hs1,hm,hx0,hxN]
          exact hnext _
        have hg:=hgo
        first|simp[e1,e20,e21,e22,hlt',hx,hwn,IntKind.bits,hs1,hdw,qd hA,hdr,qS,hla,hdi,hm,hx0,hxN]|simp[e1,e20,e21,e22,hlt',hx,hax,hwn,IntKind.bits,hs1,hdw,hm,hx0,hxN]
        exact hgo _ _ (by simp[e1]) (by simp[e20]) (by simp[e21]) (by simp) (hnext _) (by simp[hm,hxN];omega)
      . have hb:=hbad (by simp[hm,hxv]);subst hb
        first|simp[e1,e20,e21,e22,hlt',hx,hwn,IntKind.bits,hs1,hdw,qd hA,hdr,qS,hla,hdi,hm,hxv]|simp[e1,e20,e21,e22,hlt',hx,hax,hwn,IntKind.bits,hs1,hdw,hm,hxv]
        exact hnext _
    by_cases hx0:x<0
    . have hb:=hbad (by simp;omega);subst hb
      first|simp[e1,e20,e21,e22,hlt',hx,qd hA,hdr,qS,hla,hdi,hm,hx0]|simp[e1,e20,e21,e22,hlt',hx,hax,hm,hx0]
      exact hnext _
    by_cases hxN:(N:Int)<=x
    . have hb:=hbad (by simp;omega);subst hb
      first|simp[e1,e20,e21,e22,hlt',hx,hwn,IntKind.bits,hs1,qd hA,hdr,qS,hla,hdi,hm,hx0,hxN]|simp[e1,e20,e21,e22,hlt',hx,hax,hwn,IntKind.bits,hs1,hm,hx0,hxN]
      exact hnext _
    have hg:=hgo
    first|simp[e1,e20,e21,e22,hlt',hx,hwn,IntKind.bits,hs1,hdw,qd hA,hdr,qS,hla,hdi,hm,hx0,hxN]|simp[e1,e20,e21,e22,hlt',hx,hax,hwn,IntKind.bits,hs1,hdw,hm,hx0,hxN]
    exact hgo _ _ (by simp[e1]) (by simp[e20]) (by simp[e21]) (by simp) (hnext _) (by simp[hm,hxN];omega)
 rintro ev ⟨H1,T1⟩ ⟨e1,e20,e21,e22,hkp,hr⟩;have:res=true:=by rw[hr,qBk];rfl
 subst this;simp[e21,e22];exact hkp
structure SpV(s:Spc)(d):Prop where
 vq:VQ s.p
 vp:qk s.p=0
 v20:s.p.vars.length<=20
 bits:kl s.p.vars (qK s.p)<=18
 rk:∀e∈s.R,zy s.p.vars e=0/\Jf e
 rl:s.R.length<=50000
 rt:qsX s.R s.rtok
 lv:s.lv=qN s.p
 dag:s.small=true->DagOk d/\(∃tok,s.dv=.sl 3 (d.map qH) tok)/\s.root<d.length
 ws:∀(i:Nat) (w:List Weight),(z8 s.p.vars.length s.p.dists)[i]?=some (some w)->w≠[]/\w.length<=1000
noncomputable def qbR(s:Spc)(d:List Nd)(fx:Nat->Option Nat)(a:List Int)(gi:Nat):Nat :=
 if s.small=true then qbm s.p s.lv d fx ((NG s.p).getD gi []) (ZN s d a ((NG s.p).take gi).flatten) else qdV s.p fx ((NG s.p).getD gi []) (Vh s a ((NG s.p).take gi).flatten)
def qlV{p:Problem}(h:qk p=0){i:Nat}(hi:i∈(NG p).flatten):∃(k:Nat),p.groups.flatten[k]?=some (i:Int):=by
 have:(i:Int)∈p.groups.flatten:=by rw[Zr h];exact qAN.2 ⟨i,hi,rfl⟩
 exact qA5 this
def SpV.gr{s d}(h:SpV s d){l}(hl:∀i∈l,i∈(NG s.p).flatten):qtA s l:=fun i hi=>by
 obtain⟨k,hk⟩:=qlV h.vp (hl i hi);obtain⟨n,v,hn,hv,hm⟩:=QZ ((jE h.vp).2.1 _ (qAn hk));have hn:n=i:=by omega
 subst hn;have hw:=zd (z0 h.vp v (qAn hv));have hl:=KJ h.vp hk;have h1:=Yt (Qw h.vp) (s.p.groups.flatten.take k);have h2:=W8 (Qw h.vp) s.p.groups.flatten k;have h3:=K6 h.vp;refine⟨v,(kq s.p.vars (s.p.groups.flatten.take k)).toNat,hv,by omega,by omega,?_,by omega,h.ws n⟩;rw[h.lv,hl];congr 1;omega
def qlW{p}(h:qk p=0):(NG p).flatten.length<=p.vars.length:=by
 have:=VE h;rw[Zr h,qAY]at this;exact this
def JM{p}(h:qk p=0)(hv:p.vars.length<=1000):(∀g∈NG p,g.length<=1000)/\(NG p).length<=1000:=by
 have h1:=qlW h;have h2:∀g∈NG p,g≠[]:=fun g hg=>by
  obtain⟨g',hg',rfl⟩:=qAN.1 hg;have:=(jE h).1 g' hg';simpa using this
 have key:∀G:List (List Nat),(∀g∈G,g≠[])->(∀g∈G,g.length<=G.flatten.length)/\G.length<=G.flatten.length:=by
  intro G
  induction G with
  |nil=>intro _;simp
  | cons a r ih=>
   intro hG;obtain⟨i1,i2⟩:=ih fun g hg=>hG g (by simp[hg])
   have ha:=qAI.2 (hG a (by simp));refine⟨fun g hg=>?_,by rw[qBb,qAq,qAD];omega⟩;rcases qAM.1 hg with rfl|hg
   . simp
   have:=i1 g hg;rw[qBb,qAq];omega
 obtain⟨k1,k2⟩:=key (NG p) h2;exact⟨fun g hg=>by have:=k1 g hg;omega,by omega⟩
def AOk(p:Problem)(a:List Int):Prop:=∀i∈(NG p).flatten,∃n:Nat,a[i]?=some (n:Int)/\n<65536
def Zo{p}(h:qk p=0){a}(ha:qC p.vars a=true):AOk p a:=fun i hi=>by
 obtain⟨k,hk⟩:=qlV h hi;obtain⟨n,v,hn,hv,hm⟩:=QZ ((jE h).2.1 _ (qAn hk));have hn:n=i:=by omega
 subst hn;unfold qC at ha;simp only[qAr,decide_eq_true_eq]at ha;have hil:=(qAm.1 hv).1;obtain⟨x,hx⟩:∃x,a[n]?=some x:=⟨_,qAo (by omega)⟩;have hz:(v,x)∈p.vars.zip a:=qAn (i:=n) (qB2.2 ⟨hv,hx⟩);have h1:=qAv.1 ha.2 _ hz;unfold zD at h1;simp only[qAr,decide_eq_true_eq]at h1;have hw:=zd (z0 h v (qAn hv));have h2:(2:Nat)^v.width.toNat<=2^8:=qAV (by omega) (by omega);have h3:((2^v.width.toNat:Nat):Int)=(2:Int)^v.width.toNat:=by simp
 exact⟨x.toNat,by rw[hx];congr 1;omega,by omega⟩
def qo8{s d}(h:SpV s d){fx}(hfx:∀i x,fx i=some x->x<65536){m gi}(hgi:gi<(NG s.p).length){r a H}(hao:AOk s.p a)(hs:SpOk s H)(hf:qiy m fx H)(ha:AsR r a H)(T) :
 qg prog GG 44 [.ptr s.S 0,.int .i64 gi,r,m] ⟨H,T⟩ (fun v U'=>v=.int .i64 (qbR s d fx a gi:Nat)/\KpL [] H U'.H):=by
 obtain⟨g,hg⟩:∃g,(NG s.p)[gi]?=some g:=⟨_,qAo hgi⟩;have hl:=JM h.vp h.vq.vars;have hgr:=h.gr fun i hi=>qAX.2 ⟨g,qAn hg,hi⟩
 have hsub:∀i∈((NG s.p).take gi).flatten,i∈(NG s.p).flatten:=fun i hi=>by
  obtain⟨g',hg',hi'⟩:=qAX.1 hi;exact qAX.2 ⟨g',qBa hg',hi'⟩
 have hpre:SpG s a ((NG s.p).take gi).flatten:=⟨h.gr hsub,fun i hi=>hao i (hsub i hi)⟩;unfold qbR;rw[show(NG s.p).getD gi []=g by simp[qAx,hg]];by_cases hsm:s.small=true
 . obtain⟨hd,⟨tok,hdv⟩,hr⟩:=h.dag hsm;rw[if_pos hsm];exact qqN h.vp hsm hd hdv hr hfx hg hl.1 hl.2 hgr hpre hs hf ha T
 rw[if_neg hsm];exact qqM h.vq h.vp h.v20 h.bits (by simpa using hsm) h.rk h.rl h.rt hfx hg hl.1 hl.2 (qBf (qlW h.vp) h.vq.vars) hgr hpre hs hf ha T
noncomputable def W7(s:Spc)(d:List Nd)(gi:Int)(a:List Int):Int×Int :=
 if gi<0\/((NG s.p).length:Int)<=gi\/qC s.p.vars a=false then(0,1)
 else if qbR s d (fun _=>none) a gi.toNat=0 then(0,11) else if qbR s d (fun _=>none) a gi.toNat=lim then(0,3) else(qbR s d (fun _=>none) a gi.toNat,0)
def qdT{s d}(h:SpV s d)(gi){r a H}(hs:SpOk s H)(ha:AsR r a H)(T) :
 qg prog GG 22 [.ptr s.S 0,.int .i64 gi,r] ⟨H,T⟩ (fun v U'=>v=.tup [.int .i64 (W7 s d gi a).1,.int .i64 (W7 s d gi a).2]/\KpL [] H U'.H):=by
 refine qEI qe func22 rfl (by kernel_rfl) ?_;have hS:=hs.c;have hG:=V0 h.vp;have hw:∀v∈s.p.vars,0<=v.width/\v.width<=8:=fun v hv=>by have:=zd (z0 h.vp v hv);omega
 have has:=qdj hs hw h.vq.vars ha T;simp only[spE,qt,qAL,qAK,hG]at hS;obtain⟨res,hres⟩:∃res,res=W7 s d gi a:=⟨_,rfl⟩;rw[<- hres];unfold W7 at hres;by_cases h0:gi<0
 . rw[if_pos (.inl h0)]at hres;subst hres;simp[h0,unA];exact qFf
 by_cases h1:((NG s.p).length:Int)<=gi
 . rw[if_pos (.inr (.inl h1))]at hres;subst hres;simp[h0,h1,hS];exact qFf
 simp[h0,h1,hS];refine qEM has ?_;rintro v ⟨H1,T1⟩ ⟨rfl,hk1⟩
 cases hA:qC s.p.vars a with
 | false=>
  rw[if_pos (.inr (.inr hA))]at hres;subst hres;simp[unA];exact hk1
 | true=>
  rw[if_neg (by simp[h0,hA];omega)]at hres;obtain⟨g,rfl⟩:=qAH (by omega:0<=gi);have hsu:=qo8 h (fx:=fun _=>none) (by simp) (m:=.nilm) (gi:=g) (by omega) (Zo h.vp hA) (hs.keep hk1 (by simp) (by simp) (by simp)) (.inl ⟨rfl,fun _=>rfl⟩) (ha.keep hk1 (by simp)) T1;rw[qAS]at hres;generalize qbR s d (fun _=>none) a g=n at *;simp[unA];refine qEM hsu ?_;rintro v ⟨H2,T2⟩ ⟨rfl,hk2⟩;have hkk:=hk1.trans hk2;by_cases hn0:n=0
  . rw[if_pos hn0]at hres;subst hres;simp[hn0];exact hkk
  rw[if_neg hn0]at hres;by_cases hnl:n=lim
  . rw[if_pos hnl]at hres;subst hres;have hnl':(n:Int)=1099511627777:=(by rw[hnl];rfl);simp[hnl'];exact hkk
  rw[if_neg hnl]at hres;subst hres;simp[hn0,show ¬(n:Int)=1099511627777 by unfold lim at hnl;omega];exact hkk
section
attribute [local go_sem] Oper.semAt_some
def qqS{K}{l:List Int}{tok v}(h:qi K (.sl 1 (l.map fun n=>[.int .i64 n]) tok) v) :
 ∃a cap,v=.slice a l.length cap/\∀j n,l[j]?=some n->∃B off,a=some ⟨B,off,none⟩/\K.ro B (off+j)=some (.int .i64 n):=by
 simp only[qi]at h;rcases h with⟨⟨a,rfl,_⟩,h0,_⟩|⟨B,off,cap,rfl,hcap,hrows,_⟩
 . have:l=[]:=by simpa using h0
   subst this;exact⟨a,0,rfl,fun j n e=>by simp at e⟩
 refine⟨some ⟨B,off,none⟩,cap,by simp,fun j n e=>⟨B,off,rfl,?_⟩⟩;obtain⟨_,_,h3⟩:=qP.get B 1 _ off hrows j [.int .i64 n] (by simp[e]);simp only[qn,qi]at h3;obtain⟨⟨v,hv,rfl⟩,_⟩:=h3;simpa using hv
def qyf(G)(l:List Int)(tok)(hlen:l.length<2^62):qw5 prog G 91 [.rptr [.sl 1 (l.map fun n=>[.int .i64 n]) tok]] (fun _=>True) (l.map fun n=>.int .i64 n):=by
 refine⟨by kernel_rfl,?_⟩;intro w0 ro0 L K U w vcap S hw hcap _ hS hround;simp only[qj]at hcap;obtain⟨v0,vr,e0,hp,rfl⟩:=hcap;have evs:vcap = #[v0]:=by apply Array.ext';simpa using e0
 subst evs;simp only[qi,qn]at hp;obtain⟨Bs,os,rfl,⟨v,hro,hv⟩,_⟩:=hp;obtain⟨a0,cap,rfl,hcell⟩:=qqS hv;have hread:∀K' U' w',K.le K'->WRel G w0 ro0 K' U' w'->w'.cell? ⟨Bs,os,none⟩=some (.slice a0 l.length cap):=fun K' U' w' h1 h2=>h2.ro _ _ _ (h1.ro _ _ _ hro)
 have hBs:=hread K U w (qE0 K) hw;refine callsIn_of_wp func91 rfl trivial ?_ rfl;simp only[Tryz.ntmps91,qDo,qAD,qBh,Nat.reduceAdd,Nat.reduceSub,Array.replicate_succ,Array.replicate_zero,List.push_toArray,List.append_toArray,qAK,qAL]
 gi_wp2
 gi_loopw [7] (fun i wr=>∃k:Nat,k<=l.length/\i=.int .i64 k/\∃K' U',K.le K'/\WRel G w0 ro0 K' U' wr/\S k U')
  (fun i _=>l.length-(intOf i).toNat)
 case atStart=>exact⟨0,qCf _,rfl,K,U,qE0 K,hw,hS⟩
 case round=>
  obtain⟨k,hk,rfl,K1,U1,hle1,hw1,hS1⟩:=hrel;by_cases hlt:k<l.length
  . obtain⟨B,off,rfl,hro1⟩:=hcell k l[k] (by simp[hlt]);have hcx:wr.cell? ⟨B,off+k,none⟩=some (.int .i64 l[k]):=hw1.ro _ _ _ (hle1.ro _ _ _ hro1);obtain⟨fn,tmps,assign,body,hy,hR⟩:=hround k (.int .i64 l[k]) U1 K1 wr (by simp[hlt]) hS1 hle1 hw1 _ rfl
    gi_wp2
    refine⟨rfl,hR.mono ?_⟩;rintro e W3 ⟨rfl,K2,U2,hle2,hw2,hS2⟩
    gi_wp2
    go_roundw
    case rel=>exact⟨k+1,by omega,by simp,K2,U2,qE1 hle1 hle2,hw2,hS2⟩
    case measure=>simp[intOf];omega
  obtain rfl:k=l.length:=by omega
  gi_wp2
  refine bodyPost_end (results_none rfl _ _ _) rfl ?_;exact⟨⟨_,rfl⟩,K1,U1,hle1,hw1,by simpa using hS1⟩
end
section
attribute [local go_sem] Oper.semAt_some
end
abbrev Yh(l:List Int):List (List AV):=l.map fun n=>[.int .i64 n]
def qzA(v:AV)(U:St)(l:List Int):Prop:=(l=[]/\v=.sl 0 [] .nil)\/∃b,v=.ms b 0 l.length 1/\l≠[]/\U.H[b]?=some (.cells (l.map fun n=>.int .i64 n))
def qzy(U:St)(n0:Nat)(l:List Int)(i:Nat)(τ:St):Prop :=
 τ.T=U.T/\(∀k<n0,τ.H[k]?=U.H[k]?)/\∃v,τ.H[n0]?=some (.cells [v])/\((i=0/\v=.sl 0 [] .nil)\/∃b,v=.ms b 0 i 1/\0<i/\n0<b/\τ.H[b]?=some (.cells ((l.take i).map fun n=>.int .i64 n)))
def qzd(U:St)(l:List Int)(v:AV)(τ:St):Prop:=τ.T=U.T/\(∀k<U.H.length,τ.H[k]?=U.H[k]?)/\qzA v τ l
def qlJ(H T n):zq (Dof prog) ⟨H,T⟩ 28 28 (.sl 0 [] .nil) (.sl 1 [[.int .i64 n]] .tight)=some (.ms H.length 0 1 1,⟨H++[.cells [.int .i64 n]],T⟩):=by
 simp[zq,zX,Yv,qQ,St.push]
def qoO(H T n b i c)(hb:H[b]?=some (.cells c))(hc:c.length=i)(hi:i<2^28):zq (Dof prog) ⟨H,T⟩ 28 28 (.ms b 0 i 1) (.sl 1 [[.int .i64 n]] .tight)=some (.ms H.length 0 (i+1) 1,⟨H.set b .dead++[.cells (c++[.int .i64 n])],T⟩):=by
 simp[zq,zX,Yv,qQ,hb,show i+1<=549755813888 by omega,hc,show c.take i=c from qAs (by omega)]
def qdn(U l tok)(hlen:l.length<2^28) :
 qg prog GG 142 [.sl 0 [] .nil,.fn 91 [] [.rptr [.sl 1 (Yh l) tok]]] U (qzd U l):=by
 refine qEH ⟨true,[],[],[]⟩ qe func142 rfl (by kernel_rfl) ?_;simp;refine qkl (qcb _) (fun _=>True) (l.map fun n=>.int .i64 n) (qzy U U.H.length l) (by simp[ev]) (qyf GG l tok (by omega)) (fun _ _ _=>trivial) ?_ ?_ ?_
 . refine⟨rfl,fun k hk=>?_,.sl 0 [] .nil,?_,.inl ⟨rfl,rfl⟩⟩
   . simp[qAB hk]
   . simp
 . rintro i v τ hi ⟨h1,h2,w,h3,h4⟩;obtain⟨n,hn,rfl⟩:∃n,l[i]?=some n/\v=.int .i64 n:=by
    simp only[qAR,qAu]at hi;obtain⟨n,a,b⟩:=hi;exact⟨n,a,b.symm⟩
   have hil:i<l.length:=(qAm.1 hn).1;obtain⟨H,T⟩:=τ;simp only at h1 h2 h3 h4;simp[h3];have hnl:=(qAm.1 h3).1;have htk:(l.take (i+1)).map (fun n=>AV.int .i64 n)=(l.take i).map (fun n=>AV.int .i64 n)++[.int .i64 n]:=by
    rw[qAT,hn];simp
   rcases h4 with⟨rfl,rfl⟩|⟨b,rfl,hi0,hb,hcb⟩
   . rw[qlJ];simp[qAB hnl,h3];refine⟨h1,fun k hk=>?_,.ms H.length 0 1 1,?_,.inr ⟨H.length,rfl,by omega,hnl,?_⟩⟩
     . simp only;rw[qAp (by omega),qAB (by omega)];exact h2 k hk
     . simp only;rw[qAt (by simp;omega)]
     simp only;rw[qAp (by omega),qAw (qAy _),htk];simp
   have hcl:((l.take i).map fun n=>AV.int .i64 n).length=i:=(by simp;omega);rw[qoO H T n b i _ hcb hcl (by omega)];have hbl:b<H.length:=(qAm.1 hcb).1;have h3':(H.set b .dead++[.cells ((l.take i).map (fun n=>AV.int .i64 n)++[.int .i64 n])])[U.H.length]?=some (.cells [.ms b 0 i 1]):=by
    rw[qAB (by simpa using hnl),qAp (by omega),h3]
   generalize hH':H.set b .dead++[.cells ((l.take i).map (fun n=>AV.int .i64 n)++[.int .i64 n])]=H' at h3';simp[h3'];have hl':H'.length=H.length+1:=(by rw[<- hH'];simp);refine⟨h1,fun k hk=>?_,.ms H.length 0 (i+1) 1,?_,.inr ⟨H.length,rfl,by omega,hnl,?_⟩⟩
   . simp only;rw[qAp (by omega),<- hH',qAB (by simp;omega),qAp (by omega)];exact h2 k hk
   . simp only;rw[qAt (by omega)]
   simp only;rw[qAp (by omega),htk,<- hH',qAw (by simp)];simp
 rintro τ ⟨h1,h2,w,h3,h4⟩;simp[h3];refine⟨h1,h2,?_⟩;simp only[qAY,qB7]at h4;rcases h4 with⟨h0,rfl⟩|⟨b,rfl,h0,hb,hc⟩
 . exact .inl ⟨qAA h0,rfl⟩
 exact .inr ⟨b,rfl,fun e=>by rw[e]at h0;simp at h0,hc⟩
def qif(U l tok)(hlen:l.length<2^28) :
 qg prog GG 89 [.fn 91 [] [.rptr [.sl 1 (Yh l) tok]]] U (qzd U l):=by
 refine qEI qe func89 rfl (by kernel_rfl) ?_;simp;refine qEM (qdn U l tok hlen) ?_;rintro v τ h;simp;exact h
def qyE:IntKind.i64.wrap 1=1:=wr (by omega) (by omega)
def qew:List Int->Int->List Int
 |[],x=>[x]
 |y::r,x=>if x<y then y::qew r x else x::y::r
def qex(s:List Int)(x:Int):List Int:=(qew s.reverse x).reverse
def wc(l:List Int):List Int:=l.foldl qex []
def qge:∀(s) (x),(qew s x).length=s.length+1
 |[],x=>rfl
 |y::r,x=>by unfold qew;split<;>simp[qge r x]
def qnN(s x):(qex s x).length=s.length+1:=by simp[qex,qge]
def Js(l x):wc (l++[x])=qex (wc l) x:=by simp[wc,qBj]
def KT:∀(n) (l),l.length=n->(wc l).length=n:=by
 intro n
 induction n with
 |zero=>intro l h;rw[qAA h];rfl
 | succ n ih=>
  intro l h;have hne:l≠[]:=fun e=>by rw[e]at h;simp at h
  rw[<- qBB hne,Js,qnN,ih _ (by simp[h])]
def qcK{A B x}(h:∀y∈B,x<y):qex (A++B) x=qex A x++B:=by
 unfold qex;rw[qC7];have:∀(C D:List Int),(∀y∈C,x<y)->qew (C++D) x=C++qew D x:=by
  intro C D hC
  induction C with
  |nil=>rfl
  | cons c C ih=>
   have:=hC c (by simp);rw[qAL,qew,if_pos this,ih fun y hy=>hC y (by simp[hy])];rfl
 rw[this _ _ fun y hy=>h y (by simpa using hy),qC7,List.reverse_reverse]
def qnL(x):qex [] x=[x]:=rfl
def qkp{A y x}(h:¬x<y):qex (A++[y]) x=A++[y,x]:=by
 unfold qex;rw[qC7];show(qew (y::A.reverse) x).reverse=_;rw[qew,if_neg h];simp
def qrP(a b):Pure prog GG 218 [.int .i64 a,.int .i64 b] (.bool (decide (a<b))):=by
 have hn:∀z:Int,Pure prog GG 286 [.int .i64 z] (.bool false):=fun z=>by
  refine qEG qe func286 rfl (by kernel_rfl) ?_;simp
 refine qEG qe func218 rfl (by kernel_rfl) ?_;simp;refine qEJ (hn a) (by simp) ?_;simp
def qm3:List (Nat×Sch×List Nat):=[(6,.step 0 [17,16,15,14] (.step 1 [17,16,15,14] (.step 2 [17,16] (.step 3 [17,16,4] (.step 4 [17,16] (.step 5 [17,16,15,14,9,8] (.step 6 [17,16,15,14,9,8,7] (.step 7 [17,16,15,14,9,8] (.step 8 [17,16,15,14,9] (.step 9 [17,16,15,14] (.step 10 [17,16,15,14,13,12] (.step 11 [17,16,15,14,13,12] (.step 12 [17,16,15,14,13] (.step 13 [17,16,15,14] (.step 14 [17,16,15] (.step 15 [17,16] (.step 16 [17] (.step 17 [] (.done)))))))))))))))))),[])]
def qw4(b:Nat)(l:List Int)(H:List Blk)(T:List (Option Nat))(r:AV)(τ:St):Prop:=τ=⟨H.set b (.cells (zc (wc l))),T⟩
def qj8{A B x j}(h:A.length=j):(zc (A++x::B)).drop j=.int .i64 x::zc B:=by
 subst h;unfold zc;rw[qBp,qB3 (by simp),qA3 (by simp)];simp
def qr3{b l}(hl:l.length<=1000){H T}(hb:H[b]?=some (.cells (zc l))) :
 qg prog GG 212 [.ms b 0 l.length 1,.int .i64 0,.int .i64 l.length] ⟨H,T⟩ (qw4 b l H T):=by
 refine qEH ⟨false,qm3,[],[]⟩ qe func212 rfl (by kernel_rfl) ?_;have hbl:=(qAm.1 hb).1;simp;refine qEO (fun n ev U=>ev 0=.ms b 0 l.length 1/\ev 1=.int .i64 0/\ev 2=.int .i64 l.length/\∃i,n=l.length+1-i/\1<=i/\(i<=l.length\/i=1)/\ev 6=.int .i64 (i:Int)/\U=⟨H.set b (.cells (zc (wc (l.take i)++l.drop i))),T⟩) l.length ?_ ?_
 . refine⟨by simp,by simp,by simp,1,by omega,by omega,.inr rfl,by simp[qyE],?_⟩;have:wc (l.take 1)++l.drop 1=l:=by
    cases l with
    |nil=>rfl
    |cons a r=>rfl
   rw[this];have:H.set b (.cells (zc l))=H:=by
    apply qBn;intro j;by_cases hj:b=j
    . subst hj;rw[qAt hbl,hb]
    rw[qAp hj]
   rw[this]
 rintro n ev U R hR ⟨e0,e1,e2,i,rfl,hi1,hi2,e6,rfl⟩;by_cases hil:i<l.length
 . have hil':(i:Int)<l.length:=(by omega);have hw1:=wr (n:=(i:Int)+1) (by omega) (by omega);obtain⟨x,hx⟩:∃x,l[i]?=some x:=⟨_,qAo hil⟩;have hdr:l.drop i=x::l.drop (i+1):=by
    obtain⟨h1,h2⟩:=qAm.1 hx;rw[qAJ h1,h2]
   have htk:wc (l.take (i+1))=qex (wc (l.take i)) x:=(by rw[qAT,hx];exact Js _ _);have hSl:(wc (l.take i)).length=i:=KT _ _ (by simp;omega);rw[hdr];generalize wc (l.take i)=S at *;generalize hDD:l.drop (i+1)=D at *;have hDl:D.length=l.length-(i+1):=(by rw[<- hDD];simp);simp[e2,e6,hil'];refine qEO (fun n ev U=>ev 0=.ms b 0 l.length 1/\ev 1=.int .i64 0/\ev 2=.int .i64 l.length/\ev 6=.int .i64 (i:Int)/\∃j A B,n=j/\j<=i/\ev 7=.int .i64 (j:Int)/\A.length=j/\S=A++B/\(∀y∈B,x<y)/\U=⟨H.set b (.cells (zc (A++x::(B++D)))),T⟩) i ?_ ?_
   . exact⟨by simp[e0],by simp[e1],by simp[e2],by simp[e6],i,S,[],rfl,qAy _,by simp,hSl,by simp,by simp,by simp⟩
   rintro n ev U R2 hR2 ⟨e0,e1,e2,e6,j,A,B,rfl,hji,e7,hAl,hSAB,hBx,rfl⟩;have hBl:B.length=i-n:=(by have:=hSl;rw[hSAB,qAq]at this;omega);have fin:∀ev',ev' 0=.ms b 0 l.length 1->ev' 1=.int .i64 0->ev' 2=.int .i64 l.length->ev' 6=.int .i64 ((i+1:Nat):Int)->qex S x=A++x::B->R ev' ⟨H.set b (.cells (zc (A++x::(B++D)))),T⟩:=fun ev' a0 a1 a2 a6 hins=>by
    refine hR (l.length+1-(i+1)) _ _ (by omega) ⟨a0,a1,a2,i+1,rfl,by omega,.inl (by omega),a6,?_⟩;rw[htk,hins];simp[hDD]
   cases n with
   | zero=>
    have hA0:=qAA hAl;subst hA0;simp;rw[Jr (by rfl)];simp[e1,e6,e7,hw1];refine fin _ (by simp[e0]) (by simp[e1]) (by simp[e2]) (by simp) ?_;rw[hSAB];have:=qcK (A:=[]) hBx;simpa[qnL] using this
   | succ j=>
    obtain⟨A',y,rfl⟩:∃A' y,A=A'++[y]:=by
     have hne:A≠[]:=fun e=>by rw[e]at hAl;simp at hAl
     exact⟨A.dropLast,A.getLast hne,(qBB hne).symm⟩
    have hA'l:A'.length=j:=(by simpa using hAl);have hj1:=wr (n:=((j:Int)+1)-1) (by omega) (by omega);have hjj:((j:Int)+1)-1=j:=(by omega);rw[hjj]at hj1;have hrow:(A'++[y])++x::(B++D)=A'++y::x::(B++D):=(by simp);have hd1:(zc (A'++y::x::(B++D))).drop (j+1)=.int .i64 x::zc (B++D):=by
     have:=qj8 (A:=A'++[y]) (x:=x) (B:=B++D) (j:=j+1) (by simpa using hA'l)
     rwa[hrow]at this
    have hd0:(zc (A'++y::x::(B++D))).drop j=.int .i64 y::zc (x::(B++D)):=qj8 hA'l;have hlen:(zc (A'++y::x::(B++D))).length=l.length:=(by rw[qS];simp;omega);have hget:∀z:Blk,(H.set b z)[b]?=some z:=fun z=>qAt hbl
    have hjl:(j:Int)+1<l.length:=(by omega);have hjl0:(j:Int)<l.length:=(by omega);have hjn:(0:Int)<=(j:Int)+1:=(by omega);have hjt:((j:Int)+1).toNat=j+1:=(by omega);have hjl1:j+1+1<=l.length:=(by omega);have hjl2:j+1<=l.length:=(by omega);simp only[qDA,qEb]at e7;rw[hrow]at fin⊢;have hlt:=qrP x y;simp;rw[Jr (by rfl)];simp[e0,e1,e7,show(0:Int)<(j:Int)+1 by omega,hjl,hjl0,hjn,hjt,hget,hlen,hjl1,hjl2,hd1,hd0,hjj,hj1];refine qEJ hlt (by simp) ?_;by_cases hxy:x<y
    . have hs1:(zc (A'++y::x::(B++D))).set (j+1) (.int .i64 y)=zc (A'++y::y::(B++D)):=by
       rw[kD,qBc _ _ (by omega),hA'l,qBr];rfl
      have hs2:(zc (A'++y::y::(B++D))).set j (.int .i64 x)=zc (A'++x::y::(B++D)):=by
       rw[kD,qBc _ _ (by omega),hA'l,qBm];rfl
      simp[hxy];rw[qR rfl];simp[ze,e0,e7,hjl,hjl0,hjn,hjt,hget,hlen,show(zc (A'++y::y::(B++D))).length=l.length by rw[qS];simp;omega,hjl1,hjl2,hd1,hd0,hjj,hj1,hs1,hs2];exact hR2 j _ _ (by omega) ⟨by simp[e0],by simp[e1],by simp[e2],by simp[e6],j,A',y::B,rfl,by omega,by simp,hA'l,by rw[hSAB];simp,fun z hz=>by
       rcases qAM.1 hz with rfl|hz
       . exact hxy
       exact hBx z hz,by simp⟩
    simp[hxy,e6,hw1];refine fin _ (by simp[e0]) (by simp[e1]) (by simp[e2]) (by simp) ?_;rw[hSAB,qcK hBx,qkp hxy];simp
 have hil':¬(i:Int)<l.length:=by omega
 have hq:qw4 b l H T (.tup []) ⟨H.set b (.cells (zc (wc (l.take i)++l.drop i))),T⟩:=by
  rw[show l.take i=l from qAs (by omega),show l.drop i=[] from qA3 (by omega),qA6];rfl
 simp[e2,e6,hil'];exact hq
def quF(n:Nat)(h:n<=12):Pure prog GG 222 [.int .u64 n] (.int .i64 ((if n=0 then 0 else if n=1 then 1 else if n<4 then 2 else if n<8 then 3 else 4:Nat):Int)):=by
 refine qEG qe func222 rfl (by kernel_rfl) ?_;have h1:¬(4294967296:Int)<=n:=by omega
 have h2:¬(65536:Int)<=n:=by omega
 have h3:¬(256:Int)<=n:=by omega
 have h4:IntKind.u8.wrap (n:Int)=n:=by
  have:n=0\/n=1\/n=2\/n=3\/n=4\/n=5\/n=6\/n=7\/n=8\/n=9\/n=10\/n=11\/n=12:=by omega
  rcases this with rfl|rfl|rfl|rfl|rfl|rfl|rfl|rfl|rfl|rfl|rfl|rfl|rfl<;>decide
 simp[-getElem?_pos,h1,h2,h3,wE,h4];have:n=0\/n=1\/n=2\/n=3\/n=4\/n=5\/n=6\/n=7\/n=8\/n=9\/n=10\/n=11\/n=12:=by omega
 have w0:IntKind.i64.wrap 0=0:=by decide
 have w1:IntKind.i64.wrap 1=1:=by decide
 have w2:IntKind.i64.wrap 2=2:=by decide
 have w3:IntKind.i64.wrap 3=3:=by decide
 have w4:IntKind.i64.wrap 4=4:=by decide
 rcases this with rfl|rfl|rfl|rfl|rfl|rfl|rfl|rfl|rfl|rfl|rfl|rfl|rfl<;>simp[wE,w0,w1,w2,w3,w4]
def qrR(n:Nat)(h:n<=12):Pure prog GG 144 [.int .u64 n] (.int .i64 ((if n=0 then 0 else if n=1 then 1 else if n<4 then 2 else if n<8 then 3 else 4:Nat):Int)):=by
 refine qEG qe func144 rfl (by kernel_rfl) ?_;have h1:=quF n h;generalize ((if n=0 then 0 else if n=1 then 1 else if n<4 then 2 else if n<8 then 3 else 4:Nat):Int)=m at *;simp[-getElem?_pos];refine qEJ h1 (by simp) ?_;simp[-getElem?_pos]
def qrp{b l}(hl:l.length<=12)(m){H T}(hb:H[b]?=some (.cells (zc l))) :
 qg prog GG 143 [.ms b 0 l.length 1,.int .i64 0,.int .i64 l.length,m] ⟨H,T⟩ (qw4 b l H T):=by
 refine qEI qe func143 rfl (by kernel_rfl) ?_;have hw:=wr (n:=(l.length:Int)) (by omega) (by omega);simp;refine qEO (fun n ev U=>ev 0=.ms b 0 l.length 1/\ev 1=.int .i64 0/\ev 2=.int .i64 l.length/\U=⟨H,T⟩) 0 ⟨by simp,by simp,by simp,rfl⟩ ?_;rintro n ev U R hR ⟨h0,h1,h2,rfl⟩;simp[h0,h1,h2,hw,show(l.length:Int)<=12 by omega];refine qEM (qr3 (by omega) hb) ?_;rintro v τ h;simp;exact h
def qkf:∀n:Nat,n<=12->∃m,Pure prog GG 144 [.int .u64 n] (.int .i64 m):=fun n h=>⟨_,qrR n h⟩
def qmA{b l}(hl:l.length<=12){H T}(hb:H[b]?=some (.cells (zc l))) :
 qg prog GG 90 [.ms b 0 l.length 1] ⟨H,T⟩ (qw4 b l H T):=by
 refine qEI qe func90 rfl (by kernel_rfl) ?_;have ec:IntKind.u64.wrap (l.length:Int)=l.length:=by
  have:l.length=0\/l.length=1\/l.length=2\/l.length=3\/l.length=4\/l.length=5\/l.length=6\/l.length=7\/l.length=8\/l.length=9\/l.length=10\/l.length=11\/l.length=12:=by omega
  rcases this with e|e|e|e|e|e|e|e|e|e|e|e|e<;>rw[e]<;>decide
 obtain⟨m,hm⟩:=qkf l.length hl;simp[wE,ec];refine qEJ (G:=zk GG) hm (by simp[qz,qO]) ?_;simp;refine qEM (qrp hl _ hb) ?_;rintro v τ h;simp;exact h
def qxt(sz tok U):qg prog GG 90 [.sl sz [] tok] U (fun _ τ=>τ=U):=by
 obtain⟨m,hm⟩:=qkf 0 (by omega);refine qEI qe func90 rfl (by kernel_rfl) ?_;simp[wE,show IntKind.u64.wrap 0=0 by decide];refine qEJ (G:=zk GG) hm (by simp[qz,qO]) ?_;simp;have h371:∀τ:St,qg prog GG 212 [.sl sz [] tok,.int .i64 0,.int .i64 0] τ (fun _ τ'=>τ'=τ):=fun τ=>by
  refine qEI qe func212 rfl (by kernel_rfl) ?_;simp;refine qEO (fun _ ev (τ':St)=>ev 6=.int .i64 1/\ev 2=.int .i64 0/\τ'=τ) 0 ⟨by simp[qyE],by simp,rfl⟩ ?_;rintro n ev τ' R hR ⟨h6,h2,rfl⟩;simp[h6,h2]
 have h295:qg prog GG 143 [.sl sz [] tok,.int .i64 0,.int .i64 0,.int .i64 m] U (fun _ τ'=>τ'=U):=by
  refine qEI qe func143 rfl (by kernel_rfl) ?_;simp;refine qEO (fun _ ev (τ:St)=>ev 0=.sl sz [] tok/\ev 1=.int .i64 0/\ev 2=.int .i64 0/\τ=U) 0 ⟨by simp,by simp,by simp,rfl⟩ ?_;rintro n ev τ R hR ⟨h0,h1,h2,rfl⟩;simp[h0,h1,h2,show IntKind.i64.wrap 0=0 by decide];refine qEM (h371 τ) ?_;rintro v τ' rfl;simp
 refine qEM h295 ?_;rintro v τ rfl;simp
def qhn(l)(hl:l.length<=12)(tok):Pure prog GG 49 [.fn 91 [] [.rptr [.sl 1 (Yh l) tok]]] (.sl 1 ((wc l).map qh) .none):=by
 refine qEF o0 true qe func49 rfl (by kernel_rfl) ?_;simp;refine qEM (qif _ l tok (by omega)) ?_;rintro v ⟨H,T⟩ ⟨h1,h2,h3⟩;have hlen:(wc l).length=l.length:=KT _ _ rfl;have key:∃Q:AV->St->Prop,qg prog GG 90 [v] ⟨H,T⟩ Q/\∀r τ,Q r τ->∃b,jx b 1 qh τ.H v (wc l):=by
  rcases h3 with⟨rfl,rfl⟩|⟨b,rfl,h0,hb⟩
  . exact⟨_,qxt _ _ _,fun r τ e=>⟨0,.inl ⟨rfl,rfl⟩⟩⟩
  refine⟨_,qmA hl hb,fun r τ e=>⟨b,.inr ⟨fun e=>h0 (qAA (by rw[<- hlen,e];rfl)),by rw[hlen],?_⟩⟩⟩;rw[e,<- jL];exact qAt (qAm.1 hb).1
 obtain⟨Q,hQ,hi⟩:=key;simp;refine qEM hQ ?_;rintro r τ hr;obtain⟨b,ho⟩:=hi r τ hr;simp;exact⟨ho.frzNo (fun _=>rfl) (fun _=>rfl) (fun _=>rfl) 7,ho.frz (fun _=>rfl) (fun _=>rfl) (fun _=>rfl) 7⟩
def w7:∀l:List Int,qZ (Yh l)=true
 |[]=>rfl
 | a::r=>by
  have:=w7 r;simpa[Yh,qZ,qz] using this
def qiO(l tok)(ht:∀t k,tok≠.chain t k):Pure prog GG 50 [.sl 1 (Yh l) tok] (.fn 91 [] [.rptr [.sl 1 (Yh l) tok]]):=by
 refine qEF o0 true qe func50 rfl (by kernel_rfl) ?_;simp;have hn:qO (.sl 1 (Yh l) tok)=true:=by
  have:=w7 l;cases tok<;>simp_all[qO]
 have e:frz [Blk.cells [.sl 1 (Yh l) tok]] 8 (.fn 91 [] [.ptr 0 0])=.fn 91 [] [.rptr [.sl 1 (Yh l) tok]]:=by
  rw[frz];simp only[qO];simp[qkz,qA hn,qz]
 rw[e];have:=w7 l;exact⟨by cases tok<;>simp_all[qO,qz],qEQ _⟩
def fxE(e:Nat×Nat×Nat):AV×AV×Nat:=(.int .i64 (e.1:Int),.int .i64 (e.2.1:Int),e.2.2)
def fxO:List (Nat×Nat×Nat)->Nat->Option Nat
 |[],_=>none
 |e::r,i=>if e.1=i then some e.2.1 else fxO r i
def yH(f:Nat->Option Nat)(i x:Nat):Nat->Option Nat:=fun k=>if k=i then some x else f k
def qeB(i):∀(E) (k),(fxO E i=none/\jP (.int .i64 (i:Int)) (E.map fxE) k=some none/\∀y c,fxO (E++[(i,y,c)])=yH (fxO E) i y) \/
 ∃j x,fxO E i=some x/\jP (.int .i64 (i:Int)) (E.map fxE) k=some (some (k+j,.int .i64 (x:Int)))/\∀y:Nat,∃E':List (Nat×Nat×Nat),(E.map fxE).modify j (fun e=>(.int .i64 (i:Int),.int .i64 (y:Int),e.2.2))=E'.map fxE/\fxO E'=yH (fxO E) i y:=by
 intro E
 induction E with
 | nil=>
  intro k;refine .inl ⟨rfl,rfl,fun y c=>?_⟩;funext j;by_cases h:j=i
  . subst h;simp[fxO,yH]
  simp[fxO,yH,h];exact fun e=>h e.symm
 | cons e r ih=>
  intro k;by_cases he:e.1=i
  . refine .inr ⟨0,e.2.1,by simp[fxO,he],?_,fun y=>⟨(i,y,e.2.2)::r,by simp[fxE,List.modify],?_⟩⟩
    . simp[fxE,jP,QT,he]
    . funext j;by_cases h:j=i
      . subst h;simp[fxO,yH]
      have h':¬i=j:=fun e=>h e.symm
      simp[fxO,yH,h,h',he]
  have hne:¬(i:Int)=(e.1:Int):=by omega
  have hfind:jP (.int .i64 (i:Int)) ((e::r).map fxE) k=jP (.int .i64 (i:Int)) (r.map fxE) (k+1):=by
   simp[fxE,jP,QT,show((i:Int)==(e.1:Int))=false by simpa using hne]
  rcases ih (k+1) with⟨h1,h2,h3⟩|⟨j,x,h1,h2,h3⟩
  . refine .inl ⟨by simp[fxO,he,h1],by rw[hfind,h2],fun y c=>?_⟩;funext a;have:=congrFun (h3 y c) a;simp only[yH]at this⊢;by_cases ha:e.1=a
    . have hai:¬a=i:=fun h=>he (ha.trans h)
      simp[fxO,ha,hai]
    simp[fxO,ha,this]
  refine .inr ⟨j+1,x,by simp[fxO,he,h1],by rw[hfind,h2,qCm,qCs 1 j],fun y=>?_⟩;obtain⟨E',e1,e2⟩:=h3 y;refine⟨e::E',by simp[List.modify,<- e1],?_⟩;funext a;have:=congrFun e2 a;simp only[yH]at this⊢;by_cases ha:e.1=a
  . have hai:¬a=i:=fun h=>he (ha.trans h)
    simp[fxO,ha,hai]
  simp[fxO,ha,this]
def FxS(F:Nat)(fx:Nat->Option Nat)(H:List Blk):Prop:=∃E n,H[F]?=some (.map (E.map fxE) n)/\fxO E=fx
def FxS.ok{F fx H}(h:FxS F fx H):qiy (.map F) fx H:=by
 obtain⟨E,n,h1,rfl⟩:=h;refine .inr ⟨F,_,n,rfl,h1,fun i=>?_⟩;rcases qeB i E 0 with⟨h1,h2,_⟩|⟨j,x,h1,h2,_⟩
 . rw[h1];exact h2
 rw[h1];exact⟨_,h2⟩
def FxS.set{F fx H}(h:FxS F fx H)(i y:Nat):∃B,(∀T,zg (Dof prog) ⟨H,T⟩ 96 (.map F) (.int .i64 (i:Int)) (.int .i64 (y:Int))=some ⟨H.set F B,T⟩)/\FxS F (yH fx i y) (H.set F B):=by
 obtain⟨E,n,h1,rfl⟩:=h;have hl:=(qAm.1 h1).1;rcases qeB i E 0 with⟨_,h2,h3⟩|⟨j,x,_,h2,h3⟩
 . refine⟨.map ((E++[(i,y,n)]).map fxE) (n+1),fun T=>by simp[zg,zG,h1,h2,fxE],E++[(i,y,n)],n+1,qAt hl,h3 y n⟩
 obtain⟨E',e1,e2⟩:=h3 y;rw[qBQ]at h2;exact⟨.map (E'.map fxE) n,fun T=>by simp[zg,zG,h1,h2,e1],E',n,qAt hl,e2⟩
def FxS.keep{F fx H H' bs}(h:FxS F fx H)(hk:KpL bs H H')(hb:F∉bs):FxS F fx H':=by
 obtain⟨E,n,h1,h2⟩:=h;exact⟨E,n,hk.2 _ _ h1 hb,h2⟩
def FxS.ne{F N fx H B}(h:FxS F fx H)(hb:N≠F):FxS F fx (H.set N B):=by
 obtain⟨E,n,h1,h2⟩:=h;exact⟨E,n,by rw[qAp hb];exact h1,h2⟩
def qbI(f i x):yH f i x i=some x:=by simp[yH]
def qmp(f i x y):yH (yH f i x) i y=yH f i y:=by
 funext k;by_cases h:k=i<;>simp[yH,h]
def FxS.get{F fx H}(h:FxS F fx H){i x}(hx:fx i=some x)(T):zA (Dof prog) ⟨H,T⟩ 96 (.map F) (.int .i64 (i:Int)) false=some (.int .i64 (x:Int)):=by
 obtain⟨E,n,h1,rfl⟩:=h;rcases qeB i E 0 with⟨h2,_,_⟩|⟨j,x',h2,h3,_⟩
 . rw[hx]at h2;cases h2
 rw[hx]at h2;cases h2;simp[zA,zG,h1,h3]
def qh8(l):(l.map qh).flatten=zc l:=by
 induction l with
 |nil=>rfl
 |cons a r ih=>rw[qAz,qBb,ih];rfl
def qld{r a H}(hr:AsR r a H)(ha:a≠[])(hl:a.length<=1000)(T) :
 qg prog GG 48 [r] ⟨H,T⟩ (fun v U'=>v=.ms H.length 0 a.length 1/\U'=⟨H++[.cells (zc a)],T⟩):=by
 refine qEH ⟨true,[],[],[]⟩ qe func48 rfl (by kernel_rfl) ?_;rcases hr with⟨tok,rfl⟩|⟨N,rfl,hA⟩
 . cases a with
   |nil=>exact absurd rfl ha
   | cons x a=>
    have h2:a.length+1<=549755813888:=(by simp at hl;omega);have h3:=qh8 (x::a);simp only[qAz]at h3;simp[zq,zX,qQ,Yv,h2];exact h3
 have h2:a.length<=549755813888:=by omega
 have h1:(zc a).take a.length=zc a:=qAs (by rw[qS];exact qAy _);simp[hA,zq,zX,qQ,Yv,qS,h1,h2,ha]
def qnM{s x z}:z∈qex s x↔z∈s\/z=x:=by
 have:∀(s:List Int),z∈qew s x↔z∈s\/z=x:=by
  intro s
  induction s with
  |nil=>simp[qew]
  | cons y r ih=>
   unfold qew;split
   . simp only[qAM,ih];constructor
     . rintro(h|h|h)<;>simp[h]
     rintro((h|h)|h)<;>simp[h]
   simp only[qAM];constructor
   . rintro(h|h|h)<;>simp[h]
   rintro((h|h)|h)<;>simp[h]
 rw[qex,qDw,this,qDw]
def qcH{z}:∀(n) (l),l.length=n->(z∈wc l↔z∈l):=by
 intro n
 induction n with
 |zero=>intro l h;rw[qAA h];rfl
 | succ n ih=>
  intro l h;have hne:l≠[]:=fun e=>by rw[e]at h;simp at h
  have e:=qBB hne;rw[<- e,Js,qnM,ih _ (by simp[h])];simp
def yQ(g:List Nat):List Nat:=(wc (g.map fun n:Nat=>(n:Int))).map Int.toNat
def qaj(g):wc (g.map fun n:Nat=>(n:Int))=(yQ g).map fun n:Nat=>(n:Int):=by
 unfold yQ;rw[qBR]
 symm
 conv=>rhs;rw[<- qEh (wc _)]
 refine qBv fun z hz=>?_
 rw[qcH _ _ rfl]at hz;obtain⟨n,_,rfl⟩:=qAN.1 hz;rfl
def wJ{g i}:i∈yQ g↔i∈g:=by
 have:((i:Int)∈wc (g.map fun n:Nat=>(n:Int)))↔(i:Int)∈(g.map fun n:Nat=>(n:Int)):=qcH _ _ rfl;rw[qaj]at this;have key:∀l:List Nat,((i:Int)∈l.map fun n:Nat=>(n:Int))↔i∈l:=fun l=>by
  rw[qAN];exact⟨fun⟨n,hn,e⟩=>by
   have:n=i:=by omega
   exact this▸hn,fun h=>⟨i,h,rfl⟩⟩
 rwa[key,key]at this
def qbY(g):(yQ g).length=g.length:=by
 unfold yQ;rw[qAY,KT _ _ rfl,qAY]
def yk(F:Nat->Nat):Nat->Nat->Int->Nat×Int
 |0,x,idx=>(x,idx)
 |n+1,x,idx=>if idx<F x then(x,idx) else if n=0 then(x,idx-F x) else yk F n (x+1) (idx-F x)
def wdN(p:Problem)(i:Nat):Nat:=match p.vars[i]? with|some v=>v.width.toNat|none=>0
noncomputable def chS(s:Spc)(d:List Nd)(a:List Int)(gi:Nat):List Nat->(Nat->Option Nat)->Int->List Int->List Int
 |[],_,_,out=>out
 | i::r,fx,idx,out=>
  let q:=yk (fun x=>qbR s d (yH fx i x) a gi) (2^wdN s.p i) 0 idx
  chS s d a gi r (yH fx i q.1) q.2 (out.set i q.1)
noncomputable def qa7(s:Spc)(d:List Nd)(gi:Nat)(a:List Int)(idx:Int):List Int:=chS s d a gi (yQ ((NG s.p).getD gi [])) (fun _=>none) idx a
def ChQ(out:List Int)(H:List Blk)(v:AV)(U':St):Prop:=KpL [] H U'.H/\∃N,v=.ms N 0 out.length 1/\H.length<=N/\U'.H[N]?=some (.cells (zc out))
def qow{s d}(h:SpV s d)(hl12:(NG s.p).flatten.length<=12){gi}(hgi:gi<(NG s.p).length){r a H}(hao:AOk s.p a)(hal:a.length=s.p.vars.length)(hs:SpOk s H)(ha:AsR r a H)(T)
 {idx} (hi0:0<=idx) (hi1:idx<2^62) :
 qg prog GG 24 [.ptr s.S 0,.int .i64 gi,r,.int .i64 idx] ⟨H,T⟩ (ChQ (qa7 s d gi a idx) H):=by
 refine qEI qe func24 rfl (by kernel_rfl) ?_;obtain⟨g,hg⟩:∃g,(NG s.p)[gi]?=some g:=⟨_,qAo hgi⟩;have hgm:=qAn hg;have hmf:∀i∈g,i∈(NG s.p).flatten:=fun i hi=>qAX.2 ⟨g,hgm,hi⟩
 have hg12:g.length<=12:=by
  have:∀(G:List (List Nat)),g∈G->g.length<=G.flatten.length:=by
   intro G
   induction G with
   |nil=>intro h;simp at h
   | cons x r ih=>
    intro h;rw[qBb,qAq];rcases qAM.1 h with rfl|h
    . omega
    have:=ih h;omega
  exact qBf (this _ hgm) hl12
 have hgne:g≠[]:=by
  obtain⟨g',hg',rfl⟩:=qAN.1 hgm;have:=(jE h.vp).1 g' hg';simpa using this
 have hane:a≠[]:=by
  intro e;obtain⟨i,r',rfl⟩:=qC4 hgne;obtain⟨n,hn,_⟩:=hao i (hmf i (by simp));rw[e]at hn;simp at hn
 have hvl:=h.vq.vars;have hcl:=qld ha hane (by omega) T;have hG:=V0 h.vp;have hS:=hs.c;simp only[spE,qt,qAL,qAK,hG]at hS;have hgil:gi<s.p.groups.length:=by
  have:(NG s.p).length=s.p.groups.length:=by simp[NG]
  omega
 have hval:=qiO (g.map fun n:Nat=>(n:Int)) .none (by simp);have hsrt:=qhn (g.map fun n:Nat=>(n:Int)) (by simpa using hg12) .none;have hrw:Yh (g.map fun n:Nat=>(n:Int))=g.map zL:=by simp[Yh,zL]
 have hnr:qZ (g.map zL)=true:=by rw[<- hrw];exact w7 _
 rw[hrw]at hval hsrt;rw[qaj,qBR]at hsrt;rw[show((yQ g).map (qh∘fun n:Nat=>(n:Int)))=(yQ g).map zL by simp[qh,zL]]at hsrt;have hsl:(yQ g).length<=12:=by rw[qbY];exact hg12
 have hNl:(NG s.p).length=s.p.groups.length:=by simp[NG]
 unfold qa7;rw[show(NG s.p).getD gi []=g by simp[qAx,hg]];simp;refine qEM hcl ?_;rintro v U ⟨rfl,rfl⟩;have hS1:=qd hS [.cells (zc a)];simp[hS,hg,yC,qd];refine qEJ hval (by simp[hnr]) ?_;simp;refine qEJ hsrt (by simp[hnr]) ?_;simp;refine qEZ (yQ g) (fun dn ev U=>ev 0=.ptr s.S 0/\ev 1=.int .i64 gi/\ev 2=r/\ev 9=.ms H.length 0 a.length 1/\ev 10=.map (H.length+1)/\ev 27=.sl 1 ((yQ g).map zL) .none/\ev 28=.int .i64 (yQ g).length/\ev 29=.int .i64 dn.length /\
  ∃(rest:List Nat) (fx:Nat->Option Nat) (ix:Int) (out:List Int),yQ g=dn++rest/\ev 3=.int .i64 ix/\chS s d a gi rest fx ix out=chS s d a gi (yQ g) (fun _=>none) idx a/\KpL [] H U.H/\U.H[H.length]?=some (.cells (zc out))/\FxS (H.length+1) fx U.H/\out.length=a.length/\0<=ix/\ix<2^62/\∀i x,fx i=some x->x<65536) ?_ ?_ ?_
 . exact⟨by simp,by simp,by simp,by simp,by simp,by simp,by simp,by simp,yQ g,fun _=>none,idx,a,rfl,by simp,rfl,qFh,by simp,⟨[],0,by simp,rfl⟩,rfl,hi0,hi1,by simp⟩
 . rintro dn i rest0 ev ⟨H1,T1⟩ R hR hd hx hlt ⟨e0,e1,e2,e9,e10,e27,e28,e29,rest,fx,ix,out,hre,e3,hch,hk,hN,hF,hol,hx0,hx1,hfx⟩;have hre':rest=i::rest0:=by
    have:=hre.symm.trans hd;simpa using this
   subst hre';obtain⟨v,l,hv,hw0,hw8,_,_,_⟩:=h.gr hmf i (wJ.1 (qAn hx));have hvi:=(qAm.1 hv).1;have hs1:=wB hw0 (by omega);have hp8:2^v.width.toNat<=2^8:=qAV (by omega) (by omega);have hp0:0<2^v.width.toNat:=qDa _;obtain⟨W,hW⟩:∃W,W=2^v.width.toNat:=⟨_,rfl⟩;have hch':chS s d a gi rest0 (yH fx i (yk (fun x=>qbR s d (yH fx i x) a gi) W 0 ix).1) (yk (fun x=>qbR s d (yH fx i x) a gi) W 0 ix).2 (out.set i (yk (fun x=>qbR s d (yH fx i x) a gi) W 0 ix).1)=chS s d a gi (yQ g) (fun _=>none) idx a:=by
    rw[<- hch,hW,<- show wdN s.p i=v.width.toNat by unfold wdN;rw[hv]];rfl
   rw[<- hW]at hs1 hp8 hp0;generalize hSF:(fun x=>qbR s d (yH fx i x) a gi)=SF at *;have hwl:=wr (n:=(dn.length:Int)+1) (by omega) (by omega);have hS1:=hk.2 _ _ hS (by simp);simp[e0,e27,e28,e29,show(dn.length:Int)<(yQ g).length by omega,hx,zL,hS1,hv,show ¬v.width<0 by omega,IntKind.bits,hs1];refine qEO (fun n ev U=>ev 0=.ptr s.S 0/\ev 1=.int .i64 gi/\ev 2=r/\ev 9=.ms H.length 0 a.length 1/\ev 10=.map (H.length+1)/\ev 12=.int .i64 i/\ev 27=.sl 1 ((yQ g).map zL) .none/\ev 28=.int .i64 (yQ g).length/\ev 29=.int .i64 dn.length/\ev 42=.int .i64 W /\
    ∃ (x:Nat) (fc:Nat->Option Nat) (ic:Int),n=W-x/\ev 3=.int .i64 ic/\ev 43=.int .i64 x/\KpL [] H U.H/\U.H[H.length]?=some (.cells (zc out))/\FxS (H.length+1) fc U.H/\0<=ic/\ic<2^62/\(∀i x,fc i=some x->x<65536) /\
     ((x<W/\yk SF W 0 ix=yk SF (W-x) x ic/\∀y,yH fc i y=yH fx i y)\/(x=W/\yk SF W 0 ix=(W-1,ic)/\fc=yH fx i (W-1)))) W ?_ ?_
   . exact⟨by simp[e0],by simp[e1],by simp[e2],by simp[e9],by simp[e10],by simp,by simp[e27],by simp[e28],by simp[e29],by simp,0,fx,ix,by simp,by simp[e3],by simp,hk,hN,hF,hx0,hx1,hfx,.inl ⟨hp0,rfl,fun _=>rfl⟩⟩
   rintro n ev ⟨H2,T2⟩ R2 hR2 ⟨e0,e1,e2,e9,e10,e12,e27,e28,e29,e42,x,fc,ic,rfl,e3,e43,hk,hN,hF,hc0,hc1,hfc,hcase⟩;have hial:(i:Int)<(a.length:Int):=(by omega);have hial1:i+1<=a.length:=(by omega);have tail:∀(x:Nat) (ic:Int) (H3:List Blk) (T3:List (Option Nat)) (ev':Env),ev' 0=.ptr s.S 0->ev' 1=.int .i64 gi->ev' 2=r->ev' 9=.ms H.length 0 a.length 1->ev' 10=.map (H.length+1)->ev' 27=.sl 1 ((yQ g).map zL) .none->ev' 28=.int .i64 (yQ g).length->ev' 29=.int .i64 ((dn.length:Int)+1)->ev' 3=.int .i64 ic ->
    KpL [] H H3->H3[H.length]?=some (.cells (zc out))->FxS (H.length+1) (yH fx i x) H3->0<=ic->ic<2^62->x<65536->yk SF W 0 ix=(x,ic)->R ev' ⟨H3.set H.length (.cells (zc (out.set i x))),T3⟩:=by
    intro x ic H3 T3 ev' a0 a1 a2 a9 a10 a27 a28 a29 a3 bk bN bF b0 b1 bx hp;refine hR _ _ ⟨a0,a1,a2,a9,a10,a27,a28,by rw[a29];simp,rest0,yH fx i x,ic,out.set i x,by rw[hd];simp,a3,?_,bk.setF (qAy _),qAt (qAm.1 bN).1,bF.ne (by omega),by simp[hol],b0,b1,?_⟩
    . rw[<- hch',hp]
    intro k y hy;unfold yH at hy;split at hy
    . have:x=y:=by simpa using hy
      omega
    exact hfx k y hy
   rcases hcase with⟨hxW,hpk,hup⟩|⟨hxW,hpk,hup⟩
   . have hxW':(x:Int)<W:=(by omega);have hwx:=wr (n:=(x:Int)+1) (by omega) (by omega);obtain⟨B,hB,hF'⟩:=hF.set i x;have hF'':=hF';rw[hup]at hF'';have hkB:=hk.setF (b:=H.length+1) (y:=B) (by omega);have hNB:(H2.set (H.length+1) B)[H.length]?=some (.cells (zc out)):=(by rw[qAp (by omega)];exact hN);have hfu:∀k y,yH fx i x k=some y->y<65536:=fun k y hy=>by
      unfold yH at hy;split at hy
      . have:x=y:=by simpa using hy
        omega
      exact hfx k y hy
     have hsu:=qo8 h hfu hgi hao (hs.keep hkB (by simp) (by simp) (by simp)) hF''.ok (ha.keep hkB (by simp)) T2;rw[<- show ∀x,SF x=qbR s d (yH fx i x) a gi from fun x=>by rw[<- hSF]]at hsu;have hpkx:yk SF (W-x) x ic=if ic<SF x then(x,ic) else if W-x-1=0 then(x,ic-SF x) else yk SF (W-x-1) (x+1) (ic-SF x):=by
      obtain⟨m,hm⟩:∃m,W-x=m+1:=⟨W-x-1,by omega⟩;rw[hm];rfl
     simp[e0,e1,e2,e10,e12,e42,e43,hxW',hB];refine qEM hsu ?_;rintro v ⟨H3,T3⟩ ⟨rfl,hk3⟩;have hF3:=hF''.keep hk3 (by simp);have hN3:=hk3.2 _ _ hNB (by simp);have hkk:=hkB.trans hk3;have hget:=hF3.get (qbI fx i x) T3;by_cases hlt2:ic<SF x
     . rw[if_pos hlt2]at hpkx;simp[e3,e9,e10,e12,e29,hlt2,hget,hial,hial1,hN3,qS,hol,kD,hwl];exact tail x ic H3 T3 _ (by simp[e0]) (by simp[e1]) (by simp[e2]) (by simp[e9]) (by simp[e10]) (by simp[e27]) (by simp[e28]) (by simp) (by simp[e3]) hkk hN3 hF3 hc0 hc1 (by omega) (by rw[hpk,hpkx])
     rw[if_neg hlt2]at hpkx;have hws:=wr (n:=ic-(SF x:Int)) (by omega) (by omega);simp[e3,e43,hlt2,hws,hwx];refine hR2 (W-(x+1)) _ _ (by omega) ⟨by simp[e0],by simp[e1],by simp[e2],by simp[e9],by simp[e10],by simp[e12],by simp[e27],by simp[e28],by simp[e29],by simp[e42],x+1,yH fx i x,ic-SF x,rfl,by simp,by simp,hkk,hN3,hF3,by omega,by omega,hfu,?_⟩;by_cases hlast:W-x-1=0
     . rw[if_pos hlast]at hpkx;refine .inr ⟨by omega,?_,?_⟩
       . rw[hpk,hpkx];congr 1;omega
       congr 1;omega
     rw[if_neg hlast]at hpkx;exact .inl ⟨by omega,by rw[hpk,hpkx];rfl,fun y=>qmp _ _ _ _⟩
   have hxW':¬(x:Int)<W:=(by omega);subst hup;have hget:=hF.get (qbI fx i (W-1)) T2;simp[e9,e10,e12,e29,e42,e43,hxW,hget,hial,hial1,hN,qS,hol,kD,hwl];exact tail (W-1) ic H2 T2 _ (by simp[e0]) (by simp[e1]) (by simp[e2]) (by simp[e9]) (by simp[e10]) (by simp[e27]) (by simp[e28]) (by simp) (by simp[e3]) hk hN hF hc0 hc1 (by omega) hpk
 rintro ev ⟨H1,T1⟩ ⟨e0,e1,e2,e9,e10,e27,e28,e29,rest,fx,ix,out,hre,e3,hch,hk,hN,hF,hol,hx0,hx1,hfx⟩;have hre':rest=[]:=by simpa using hre
 subst hre';rw[<- hch];simp[e9,e28,e29];exact⟨hk,H.length,by simp[chS,hol],qAy _,hN⟩
abbrev Rng:=Int×Int
def qy9(r:Rng):List AV:=[.int .u64 r.1,.int .u64 r.2]
section
variable {H:Type}{enc:TypeId×Value->H}{w:World}{base:Nat}{held:Bool}
def ZH{fs:Array Field}{t n:Nat}{cs:List Value}{x:DataW H×List MemPlace}(ht:prog.underlying t=some (.struct fs))(h:DataW.trod enc prog w base (fun _=>true) held n t cs=some x) :
 ∃m,n=m+1/\cs.length=prog.cellsOf t/\∀(i:Nat) (f:Field),fs[i]?=some f->∃y,DataW.trod enc prog w base (fun _=>true) held m f.type ((cs.drop f.offset).take (prog.cellsOf f.type))=some y:=by
 obtain⟨xs,m,rfl,rfl,hl,hlen,hf⟩:=DataW.trod_struct ht h;refine⟨m,rfl,hl,fun i f hi=>?_⟩;have hlt:i<fs.size:=(qBi.1 hi).1;exact⟨xs[i]'(by omega),by rw[hf i f hi,qAo]⟩
def qjx{fs:Array Field}{t n:Nat}{cs:List Value}{x:DataW H×List MemPlace}(ht:prog.underlying t=some (.struct fs))(h:DataW.trod enc prog w base (fun _=>true) held n t cs=some x) :
 ∃ m,n=m+1/\cs.length=prog.cellsOf t/\(∀(i:Nat) (f:Field),fs[i]?=some f->∃y,DataW.trod enc prog w base (fun _=>true) held m f.type ((cs.drop f.offset).take (prog.cellsOf f.type))=some y) /\
  ∀(i:Nat) (f:Field),fs[i]?=some f->∀y,DataW.trod enc prog w base (fun _=>true) held m f.type ((cs.drop f.offset).take (prog.cellsOf f.type))=some y->∃xs:List (DataW H×List MemPlace),x.1=.agg (xs.map (·.1))/\xs.length=fs.size/\xs[i]?=some y:=by
 obtain⟨xs,m,rfl,rfl,hl,hlen,hf⟩:=DataW.trod_struct ht h;refine⟨m,rfl,hl,fun i f hi=>?_,fun i f hi y hy=>⟨xs,rfl,hlen,?_⟩⟩
 . have hlt:i<fs.size:=(qBi.1 hi).1;exact⟨xs[i]'(by omega),by rw[hf i f hi,qAo]⟩
 rw[<- hf i f hi,hy]
def k3:prog.cellsOf 3=1:=by kernel_rfl
def k4:prog.cellsOf 4=1:=by kernel_rfl
def k9:prog.cellsOf 9=1:=by kernel_rfl
def k37:prog.cellsOf 28=1:=by kernel_rfl
def k22:prog.cellsOf 22=1:=by kernel_rfl
def k23:prog.cellsOf 23=1:=by kernel_rfl
def k24:prog.cellsOf 24=1:=by kernel_rfl
def k25:prog.cellsOf 25=1:=by kernel_rfl
def k27:prog.cellsOf 27=5:=by kernel_rfl
def k57:prog.cellsOf 79=4:=by kernel_rfl
def k50:prog.cellsOf 54=4:=by kernel_rfl
def k75:prog.cellsOf 80=1:=by kernel_rfl
def k77:prog.cellsOf 82=2:=by kernel_rfl
def qy7:prog.cellsOf 210=4:=by kernel_rfl
def qdW{s:ByteArray}:qi (KMw w) (.str s.data.toList) (.string s):=by
 obtain⟨d⟩:=s;unfold qi;show Value.string ⟨d⟩=Value.string ⟨d.toList.toArray⟩;rw[qCt]
def ZG{n:Nat}{c:Value}{y:DataW H×List MemPlace}(h:DataW.trod enc prog w base (fun _=>true) held n 3 [c]=some y):∃i:Int,c=.int .i64 i:=by
 obtain⟨i,e,_⟩:=DataW.trod_int underlying3 h;exact⟨i,(List.cons.inj e).1⟩
def qrb{n:Nat}{c:Value}{y:DataW H×List MemPlace}(h:DataW.trod enc prog w base (fun _=>true) held n 4 [c]=some y):∃i:Bool,c=.bool i:=by
 obtain⟨i,e,_⟩:=DataW.trod_bool underlying4 h;exact⟨i,(List.cons.inj e).1⟩
def qpg{n:Nat}{c:Value}{y:DataW H×List MemPlace}(h:DataW.trod enc prog w base (fun _=>true) held n 9 [c]=some y):∃s:ByteArray,c=.string s/\Fits s.data.toList:=by
 obtain⟨s,e,_,hs⟩:=DataW.trod_string underlying9 h;refine⟨s,(List.cons.inj e).1,?_⟩;have:s.data.toList.length=s.size:=qBE;rw[Fits,this];simp only[maxLen]at hs;omega
def qxw{n:Nat}{cs:List Value}{x:DataW H×List MemPlace}(h:DataW.trod enc prog w base (fun _=>true) held n 54 cs=some x):∃v:Var,qj (KMw w) (qJ v) cs/\Fits v.name:=by
 obtain⟨m,rfl,hl,hf⟩:=ZH underlying54 h;rw[k50]at hl
 match cs,hl with
 | [a,b,c,d],_=>
  obtain⟨y0,h0⟩:=hf 0 _ rfl;obtain⟨y1,h1⟩:=hf 1 _ rfl;obtain⟨y2,h2⟩:=hf 2 _ rfl;obtain⟨y3,h3⟩:=hf 3 _ rfl;have h0:DataW.trod enc prog w base (fun _=>true) held m 9 (List.take (prog.cellsOf 9) (List.drop 0 [a,b,c,d]))=some y0:=h0;rw[k9]at h0;have h1:DataW.trod enc prog w base (fun _=>true) held m 3 (List.take (prog.cellsOf 3) (List.drop 1 [a,b,c,d]))=some y1:=h1;rw[k3]at h1;have h2:DataW.trod enc prog w base (fun _=>true) held m 3 (List.take (prog.cellsOf 3) (List.drop 2 [a,b,c,d]))=some y2:=h2;rw[k3]at h2;have h3:DataW.trod enc prog w base (fun _=>true) held m 3 (List.take (prog.cellsOf 3) (List.drop 3 [a,b,c,d]))=some y3:=h3;rw[k3]at h3;obtain⟨s,rfl,hs⟩:=qpg (c:=a) h0;obtain⟨i1,rfl⟩:=ZG (c:=b) h1;obtain⟨i2,rfl⟩:=ZG (c:=c) h2;obtain⟨i3,rfl⟩:=ZG (c:=d) h3;refine⟨⟨s.data.toList,i1,i2,i3⟩,?_,hs⟩;simp only[qJ,qj];exact⟨_,_,rfl,qdW,_,_,rfl,by simp[qi],_,_,rfl,by simp[qi],_,_,rfl,by simp[qi],rfl⟩
def qmP{n:Nat}{cs:List Value}{x:DataW H×List MemPlace}(h:DataW.trod enc prog w base (fun _=>true) held n 210 cs=some x):∃v:Weight,qj (KMw w) (qw v) cs/\True:=by
 obtain⟨m,rfl,hl,hf⟩:=ZH underlying210 h;rw[qy7]at hl
 match cs,hl with
 | [a,b,c,d],_=>
  obtain⟨y0,h0⟩:=hf 0 _ rfl;obtain⟨y1,h1⟩:=hf 1 _ rfl;obtain⟨y2,h2⟩:=hf 2 _ rfl;obtain⟨y3,h3⟩:=hf 3 _ rfl;have h0:DataW.trod enc prog w base (fun _=>true) held m 3 (List.take (prog.cellsOf 3) (List.drop 0 [a,b,c,d]))=some y0:=h0;rw[k3]at h0;have h1:DataW.trod enc prog w base (fun _=>true) held m 3 (List.take (prog.cellsOf 3) (List.drop 1 [a,b,c,d]))=some y1:=h1;rw[k3]at h1;have h2:DataW.trod enc prog w base (fun _=>true) held m 3 (List.take (prog.cellsOf 3) (List.drop 2 [a,b,c,d]))=some y2:=h2;rw[k3]at h2;have h3:DataW.trod enc prog w base (fun _=>true) held m 4 (List.take (prog.cellsOf 4) (List.drop 3 [a,b,c,d]))=some y3:=h3;rw[k4]at h3;obtain⟨i0,rfl⟩:=ZG (c:=a) h0;obtain⟨i1,rfl⟩:=ZG (c:=b) h1;obtain⟨i2,rfl⟩:=ZG (c:=c) h2;obtain⟨i3,rfl⟩:=qrb (c:=d) h3;refine⟨⟨i0,i1,i2,i3⟩,?_,trivial⟩;simp[qj,qi]
def qud{n:Nat}{cs:List Value}{x:DataW H×List MemPlace}(h:DataW.trod enc prog w base (fun _=>true) held n 82 cs=some x):∃v:Dist,qj (KMw w) (zl v) cs/\Fits v.weights:=by
 obtain⟨m,rfl,hl,hf⟩:=ZH underlying82 h;rw[k77]at hl
 match cs,hl with
 | [a,b],_=>
  obtain⟨y0,h0⟩:=hf 0 _ rfl;obtain⟨y1,h1⟩:=hf 1 _ rfl;have h0:DataW.trod enc prog w base (fun _=>true) held m 3 (List.take (prog.cellsOf 3) (List.drop 0 [a,b]))=some y0:=h0;rw[k3]at h0;have h1:DataW.trod enc prog w base (fun _=>true) held m 80 (List.take (prog.cellsOf 80) (List.drop 1 [a,b]))=some y1:=h1;rw[k75]at h1;obtain⟨i0,rfl⟩:=ZG (c:=a) h0;have h1':DataW.trod enc prog w base (fun _=>true) held m 80 [b]=some y1:=h1
  cases m with
  |zero=>simp[DataW.trod]at h1'
  | succ m=>
   obtain⟨l,v,e,hv,hfl,_⟩:=w9 (en:=qw) (good:=fun _=>True) underlying80 qy7 (by omega) (fun y=>by simp[AV.atom]) (fun cs x h=>qmP h) h1';cases e;refine⟨⟨i0,l⟩,?_,hfl⟩;simp only[zl,qj,qi];exact⟨_,_,rfl,rfl,_,[],rfl,by simpa only[qi] using hv,rfl⟩
def qph{n:Nat}{cs:List Value}{x:DataW H×List MemPlace}(h:DataW.trod enc prog w base (fun _=>true) held n 28 cs=some x):∃l:List Int,qj (KMw w) (qx l) cs/\Fits l:=by
 cases n with
 |zero=>simp[DataW.trod]at h
 | succ m=>
  obtain⟨l,v,rfl,hv,hfl,_⟩:=w9 (en:=qh) (good:=fun _=>True) underlying28 k3 (by omega) (fun y=>by simp[AV.atom]) (fun cs x h=>by
   obtain⟨i,e,_⟩:=DataW.trod_int underlying3 h;exact⟨i,by rw[e];simp[qj,qi],trivial⟩) h
  refine⟨l,?_,hfl⟩;simp only[qx,qj];exact⟨v,[],rfl,hv,rfl⟩
def rdE:∀(N n:Nat),n<=N->∀{cs:List Value}{x:DataW H×List MemPlace},DataW.trod enc prog w base (fun _=>true) held n 79 cs=some x->∃e:Ex,qj (KMw w) (qp e) cs/\Wen e:=by
 intro N
 induction N with
 | zero=>
  intro n hn cs x h;have:n=0:=by omega
  subst this;simp[DataW.trod]at h
 | succ N ih=>
  intro n hn cs x h;obtain⟨m,rfl,hl,hf⟩:=ZH underlying79 h;rw[k57]at hl
  match cs,hl with
  | [a,b,c,d],_=>
   obtain⟨y0,h0⟩:=hf 0 _ rfl;obtain⟨y1,h1⟩:=hf 1 _ rfl;obtain⟨y2,h2⟩:=hf 2 _ rfl;obtain⟨y3,h3⟩:=hf 3 _ rfl;have h0:DataW.trod enc prog w base (fun _=>true) held m 3 (List.take (prog.cellsOf 3) (List.drop 0 [a,b,c,d]))=some y0:=h0;rw[k3]at h0;have h1:DataW.trod enc prog w base (fun _=>true) held m 3 (List.take (prog.cellsOf 3) (List.drop 1 [a,b,c,d]))=some y1:=h1;rw[k3]at h1;have h2:DataW.trod enc prog w base (fun _=>true) held m 9 (List.take (prog.cellsOf 9) (List.drop 2 [a,b,c,d]))=some y2:=h2;rw[k9]at h2;have h3:DataW.trod enc prog w base (fun _=>true) held m 23 (List.take (prog.cellsOf 23) (List.drop 3 [a,b,c,d]))=some y3:=h3;rw[k23]at h3;obtain⟨i0,rfl⟩:=ZG (c:=a) h0;obtain⟨i1,rfl⟩:=ZG (c:=b) h1;obtain⟨s,rfl,hs⟩:=qpg (c:=c) h2;have h3':DataW.trod enc prog w base (fun _=>true) held m 23 [d]=some y3:=h3
   cases m with
   |zero=>simp[DataW.trod]at h3'
   | succ m=>
    obtain⟨l,v,e,hv,hfl,hg⟩:=w9 (en:=qp) (good:=Wen) underlying23 k57 (by omega) (fun y=>by rw[qc];simp[AV.atom]) (fun cs x h=>ih m (by omega) h) h3';cases e;refine⟨.mk i0 i1 s.data.toList l,?_,?_⟩
    . rw[qc];simp only[qj,qEC,Ex.n_mk,qED,qEE];exact⟨_,_,rfl,by simp[qi],_,_,rfl,by simp[qi],_,_,rfl,qdW,_,[],rfl,hv,rfl⟩
    intro y hy;rw[jB]at hy;rcases qAM.1 hy with rfl|hy
    . exact⟨hfl,hs⟩
    obtain⟨a,ha,hya⟩:=ZP.1 hy;exact hg a ha y hya
def b3:prog.bytesOf 3=8:=by kernel_rfl
def qtH{P:Program}{e:TypeId}:∀{E:List (DataW H)}{d:DataW H},d∈E->∀k∈d.weights P e,k∈DataW.weightsAll P e E
 |[],_,h,_,_=>nomatch h
 | a::r,d,h,k,hk=>by
  simp only[DataW.weightsAll,qAC];rcases qAM.1 h with rfl|h
  . exact .inl hk
  exact .inr (qtH h k hk)
def qmQ{n:Nat}{cs:List Value}{x:DataW H×List MemPlace}(h:DataW.trod enc prog w base (fun _=>true) held (n+1) 25 cs=some x)(hw:∀k∈x.1.weights prog 25,k<=reachBytes) :
 ∃(l:List (List Int)) (v:Value),cs=[v]/\qi (KMw w) (.sl 1 (l.map qx) .none) v/\Fits l/\∀y∈l,Fits y/\y.length<17592186044416:=by
 obtain⟨l,v,h1,h2,h3,h4,_⟩:=Kp (en:=qx) (good:=fun g=>Fits g/\g.length<17592186044416) (X:=fun d=>∀k∈d.weights prog 28,k<=reachBytes) underlying25 k37 (by omega) (fun y=>by simp[AV.atom]) (fun cs x h hx=>by
  cases n with
  |zero=>simp[DataW.trod]at h
  | succ m=>
   obtain⟨l,v,rfl,hv,hfl,_,hN⟩:=Kp (en:=qh) (good:=fun _=>True) (X:=fun _=>True) underlying28 k3 (by omega) (fun y=>by simp[AV.atom]) (fun cs x h _=>by
    obtain⟨i,e,_⟩:=DataW.trod_int underlying3 h;exact⟨i,by rw[e];simp[qj,qi],trivial⟩) h (fun _ _ _ _ _=>trivial)
   refine⟨l,?_,hfl,?_⟩
   . simp only[qx,qj];exact⟨v,[],rfl,hv,rfl⟩
   have:=hN 17592186044415 fun E S e=>by
    have:=hx ((E.length+S.length)*prog.bytesOf 3) (by rw[e];simp only[DataW.weights,underlying28];exact qCC);rw[b3]at this;simp only[reachBytes]at this;omega
   omega) h (fun E S e d hd k hk=>hw k (by
    rw[e];simp only[DataW.weights,underlying25];exact qBT _ (qA7 _ (qtH hd k hk))))
 exact⟨l,v,h1,h2,h3,h4⟩
def rdP{n:Nat}{cs:List Value}{x:DataW H×List MemPlace}(h:DataW.trod enc prog w base (fun _=>true) held n 27 cs=some x)(hw:∀k∈x.1.weights prog 27,k<=reachBytes):∃p:Problem,qj (KMw w) (qt p) cs/\VM p:=by
 have hx:∀y4,(∃xs:List (DataW H×List MemPlace),x.1=.agg (xs.map (·.1))/\xs.length=5/\xs[4]?=some y4)->∀k∈y4.1.weights prog 25,k<=reachBytes:=by
  rintro y4 ⟨xs,e,hl,h4⟩ k hk;refine hw k ?_;rw[e]
  match xs,hl with
  | [a,b,c,d,e],_=>
   simp at h4;subst h4;simp only[DataW.weights,underlying27,qAz,qAZ,DataW.weightsEach,qAC];exact .inr (.inr (.inr (.inr (.inl hk))))
 obtain⟨m,rfl,hl,hf,hy⟩:=qjx underlying27 h;rw[k27]at hl
 match cs,hl with
 | [a,b,c,d,e],_=>
  obtain⟨y0,h0⟩:=hf 0 _ rfl;obtain⟨y1,h1⟩:=hf 1 _ rfl;obtain⟨y2,h2⟩:=hf 2 _ rfl;obtain⟨y3,h3⟩:=hf 3 _ rfl;obtain⟨y4,h4⟩:=hf 4 _ rfl;have h4w:=hx y4 (hy 4 _ rfl y4 h4);have h0:DataW.trod enc prog w base (fun _=>true) held m 22 (List.take (prog.cellsOf 22) (List.drop 0 [a,b,c,d,e]))=some y0:=h0;rw[k22]at h0;have h1:DataW.trod enc prog w base (fun _=>true) held m 23 (List.take (prog.cellsOf 23) (List.drop 1 [a,b,c,d,e]))=some y1:=h1;rw[k23]at h1;have h2:DataW.trod enc prog w base (fun _=>true) held m 23 (List.take (prog.cellsOf 23) (List.drop 2 [a,b,c,d,e]))=some y2:=h2;rw[k23]at h2;have h3:DataW.trod enc prog w base (fun _=>true) held m 24 (List.take (prog.cellsOf 24) (List.drop 3 [a,b,c,d,e]))=some y3:=h3;rw[k24]at h3;have h4:DataW.trod enc prog w base (fun _=>true) held m 25 (List.take (prog.cellsOf 25) (List.drop 4 [a,b,c,d,e]))=some y4:=h4;rw[k25]at h4;have h0':DataW.trod enc prog w base (fun _=>true) held m 22 [a]=some y0:=h0;have h1':DataW.trod enc prog w base (fun _=>true) held m 23 [b]=some y1:=h1;have h2':DataW.trod enc prog w base (fun _=>true) held m 23 [c]=some y2:=h2;have h3':DataW.trod enc prog w base (fun _=>true) held m 24 [d]=some y3:=h3;have h4':DataW.trod enc prog w base (fun _=>true) held m 25 [e]=some y4:=h4
  cases m with
  |zero=>simp[DataW.trod]at h0'
  | succ m=>
   obtain⟨l0,v0,e0,r0,f0,g0⟩:=w9 (en:=qJ) (good:=fun v=>Fits v.name) underlying22 k50 (by omega) (fun y=>by simp[AV.atom]) (fun cs x h=>qxw h) h0';obtain⟨l1,v1,e1,r1,f1,g1⟩:=w9 (en:=qp) (good:=Wen) underlying23 k57 (by omega) (fun y=>by rw[qc];simp[AV.atom]) (fun cs x h=>rdE m m (qAy _) h) h1';obtain⟨l2,v2,e2,r2,f2,g2⟩:=w9 (en:=qp) (good:=Wen) underlying23 k57 (by omega) (fun y=>by rw[qc];simp[AV.atom]) (fun cs x h=>rdE m m (qAy _) h) h2';obtain⟨l3,v3,e3,r3,f3,g3⟩:=w9 (en:=zl) (good:=fun d=>Fits d.weights) underlying24 k77 (by omega) (fun y=>by simp[AV.atom]) (fun cs x h=>qud h) h3';obtain⟨l4,v4,e4,r4,f4,g4⟩:=qmQ h4' h4w;cases e0;cases e1;cases e2;cases e3;cases e4;refine⟨⟨l0,l1,l2,l3,l4⟩,?_,⟨⟨g0,fun e he=>?_,f3,g3,f4,fun g hg=>(g4 g hg).1⟩,f0,f1,f2,fun g hg=>(g4 g hg).2⟩⟩
   . simp only[qt,qj];exact⟨_,_,rfl,r0,_,_,rfl,r1,_,_,rfl,r2,_,_,rfl,r3,_,_,rfl,r4,rfl⟩
   rcases qAC.1 he with he|he
   . exact g1 e he
   exact g2 e he
def k42:prog.cellsOf 42=2:=by kernel_rfl
def k40:prog.cellsOf 40=1:=by kernel_rfl
def qpf{n:Nat}{c:Value}{y:DataW H×List MemPlace}(h:DataW.trod enc prog w base (fun _=>true) held n 40 [c]=some y):∃i:Int,c=.int .u64 i:=by
 obtain⟨i,e,_⟩:=DataW.trod_int underlying40 h;exact⟨i,(List.cons.inj e).1⟩
def rdR{n:Nat}{cs:List Value}{x:DataW H×List MemPlace}(h:DataW.trod enc prog w base (fun _=>true) held n 42 cs=some x):∃r:Rng,qj (KMw w) (qy9 r) cs/\True:=by
 obtain⟨m,rfl,hl,hf⟩:=ZH underlying42 h;rw[k42]at hl
 match cs,hl with
 | [a,b],_=>
  obtain⟨y0,h0⟩:=hf 0 _ rfl;obtain⟨y1,h1⟩:=hf 1 _ rfl;have h0:DataW.trod enc prog w base (fun _=>true) held m 40 (List.take (prog.cellsOf 40) (List.drop 0 [a,b]))=some y0:=h0;have h1:DataW.trod enc prog w base (fun _=>true) held m 40 (List.take (prog.cellsOf 40) (List.drop 1 [a,b]))=some y1:=h1;rw[k40]at h0 h1;obtain⟨i,rfl⟩:=qpf (c:=a) h0;obtain⟨j,rfl⟩:=qpf (c:=b) h1;refine⟨(i,j),?_,trivial⟩;simp only[qy9,qj];exact⟨_,_,rfl,rfl,_,_,rfl,rfl,rfl⟩
end
def qrq:ownKnob prog.godebug=none:=by kernel_rfl
def KM:laidOutB prog=true:=by kernel_rfl
def qye : prog.globalNamed "testbench/lexer.keywords" = some 0 := by kernel_rfl
def qxr:(prog.globals[0]?).map (·.type)=some 223:=by kernel_rfl
/-- A list of texts that reads as a known one. -/
def qra{H:Type}{enc:TypeId×Value->H}{w:World}{base:Nat}{held:Bool}{n:Nat}{cs:List Value}{p:List MemPlace}{K:List Str}
 (h:DataW.trod enc prog w base (fun _=>true) held n 223 cs=some (.slice (K.map fun k=>.lit (.string k)) [],p)) (hK:K≠[]) :
 ∃v,cs=[v]/\qi (KMw w) (.sl 1 (K.map jk) .none) v:=by
 have hs:∀(m:Nat) (cs:List Value) (x:DataW H×List MemPlace),DataW.trod enc prog w base (fun _=>true) held m 9 cs=some x->∃k:Str,qj (KMw w) (jk k) cs/\x.1=.lit (.string k):=by
  intro m cs x h;obtain⟨s,rfl,rfl,_⟩:=DataW.trod_string underlying9 h;refine⟨s.data.toList,?_,rfl⟩;simp only[jk,qj];exact⟨_,[],rfl,qdW,rfl⟩
 rcases DataW.trod_slice underlying223 h with⟨_,e⟩|⟨a,len,cap,elems,rest,m,hm,rfl,e,hb,hl,hc,hlen,hel',hsp,_⟩
 . simp at e
 simp only[qAE,DataW.slice.injEq]at e;obtain⟨⟨e1,e2⟩,_⟩:=e;have hlK:len=K.length:=by rw[<- hlen];have:=congrArg List.length e1;simpa using this.symm
 have hK0:0<K.length:=qAI.2 hK;rw[k9]at hel';have one:∀i (hi:i<K.length),∃cs',w.cells? base (a.add (i*1)) 1=some cs'/\qj (KMw w) (jk K[i]) cs':=by
  intro i hi;have hh:=hel' i (by omega);rw[qAo (by omega)]at hh;obtain⟨cs',h1,h2⟩:=qBW.1 hh;obtain⟨k,h3,h4⟩:=hs m cs' _ h2;refine⟨cs',h1,?_⟩;have e3:(elems.map (·.1))[i]?=(K.map fun k=>(DataW.lit (.string k):DataW H))[i]? := by rw[e1]
  rw[qAR,qAR,qAo (by omega),qAo hi]at e3;simp only[qC9,qAG]at e3;rw[h4]at e3;have e4:k=K[i]:=by simpa using e3
  rw[<- e4];exact h3
 have spot:a.spot=none:=by
  obtain⟨cs',h1,_⟩:=one 0 hK0;rw[qCl]at h1;obtain⟨_,hlen',hc'⟩:=World.cells?_some h1;have:=hc' 0 (by omega);rw[qAo (by omega)]at this
  cases hs:a.spot with
  |none=>rfl
  | some s=>
   simp only[Addr.add,if_true]at this;unfold World.cell? at this;rw[hs]at this;split at this<;>simp at this
 obtain⟨b,o,s⟩:=a;simp only at spot;subst spot;refine⟨_,rfl,?_⟩;simp only[qi];refine .inr ⟨b,o,cap,by simp[hlK],by simp;omega,qFd b 1 _ o fun i r e=>?_,trivial⟩;rw[qAR,qAu]at e;obtain⟨k,hk,rfl⟩:=e;obtain⟨hi,hk'⟩:=qAm.1 hk;obtain⟨cs',h1,h2⟩:=one i hi;rw[hk']at h2;obtain⟨_,hlen',hc'⟩:=World.cells?_some h1;obtain⟨g1,g2⟩:=qj.get h2;refine⟨rfl,rfl,qFc b _ _ fun j z hz=>?_⟩;have hj:j=0:=by
  have:=(qAm.1 hz).1;simp at this;exact this
 subst hj;obtain⟨v,hv1,hv2⟩:=g2 0 z hz;refine⟨v,?_,hv2⟩;have:=hc' 0 (by omega);rw[hv1]at this;show w.cell? ⟨b,o+i*1+0,none⟩=some v;rw[<- this];congr 1;simp only[Addr.add,if_true];by_cases hi0:i*1=0
 . rw[if_pos hi0,hi0];simp
 rw[if_neg hi0];simp
abbrev qhX:List (String×DataW Unit):=Rows.randomTotalsRow.laid
/-- What the condition gives: the keywords. -/
def qrB{W:World}(h:laidMetH prog qhX W):qi (KMw W) (.rptr [.sl 1 (qdz.map jk) .none]) (.pointer (some ⟨0,0,none⟩)):=by
 rw[MakeChecks.laidMetH_plain _ _ _ (by kernel_rfl)]at h;obtain⟨ps,⟨g0,t0,cs0,f0,p0,q0,_,_,_,_,⟨g1,t1,cs1,f1,p1,q1,_,_,_,_,⟨g2,t2,cs2,f2,p2,q2,_,_,_,_,⟨g3,t3,cs3,f3,p3,q3,hg,ht,hv,hd,_,_⟩,_⟩,_⟩,_⟩,_,_⟩:=h;obtain rfl:=Option.some.inj (qye.symm.trans hg);obtain rfl:=Option.some.inj (qxr.symm.trans ht);obtain⟨v,e,hr⟩:=qra (K:=qdz) hd (by decide);have hcell:W.cell? ⟨0,0,none⟩=some v:=by
  have:=World.var?_cell hg hv 0;rw[Array.eq_one_of_toList e]at this;simpa using this
 have hgoal:qi (KMw W) (.rptr [.sl 1 (qdz.map jk) .none]) (.pointer (some ⟨0,0,none⟩)):=by
  unfold qi;refine⟨0,0,rfl,?_⟩;unfold qn;exact⟨⟨v,hcell,hr⟩,by unfold qn;trivial⟩
 exact hgoal
def qoh(os:Os)(args:Array Value):laidMetH prog qhX ((World.doorLaid prog 400 os).forCall (fun _ _=>0) ⟨#[],args,[]⟩).memory :=
 laidMetH_of_parts3 (fuel:=8) (laidMet_of_run' 8 (by kernel_rfl) (by kernel_rfl)) (by kernel_rfl) (by kernel_rfl)
def qkx{W:World}(hL:laidMetH prog qhX W):∀g,qi (KMw W) (GG g) (.pointer (some ⟨g,0,none⟩)):=by
 intro g
 cases g with
 |zero=>exact qrB hL
 |succ g=>simp only[GG,qi]
abbrev qxv(s:Str):List AV:=[.int .i64 2,.int .i64 0,.str s,.sl 0 [] .nil]
def qmJ(s):zn (qxv s) (qp (wG s)):=by
 rw[qc];simp[wG,zn,Leq]
structure NearK(k)(c:List AV)(Y):Prop where
 len:c.length=4
 atoms:c.all AV.atom=true
 fz:∀H j,k<=j->zn (c.map (frz H j)) (qp Y)/\qz (c.map (frz H j))=true/\(c.map (frz H j)).all AV.atom=true
def NearK.mono{k k' c Y}(h:NearK k c Y)(hk:k<=k'):NearK k' c Y:=⟨h.len,h.atoms,fun H j hj=>h.fz H j (by omega)⟩
def qaO{H j}:∀{c:List AV},qz c=true->c.map (frz H j)=c
 |[],_=>rfl
 | a::r,h=>by
  simp only[qz,qAr]at h;rw[qAz,qA h.1,qaO h.2]
def vn{H j}:∀{c:List (List AV)},qZ c=true->c.map (·.map (frz H j))=c
 |[],_=>rfl
 | a::r,h=>by
  simp only[qZ,qAr]at h;rw[qAz,qaO h.1,vn h.2]
def qr6{H j rows tok}(hn:qZ (rows.map (·.map (frz H j)))=true)(ha:(rows.map (·.map (frz H j))).all (·.all AV.atom)=true) :
 ∃tok',frz H (j+1) (.sl 4 rows tok)=.sl 4 (rows.map (·.map (frz H j))) tok'/\qO (.sl 4 (rows.map (·.map (frz H j))) tok')=true:=by
 by_cases h:qO (.sl 4 rows tok)=true
 . have hr:qZ rows=true:=by
    cases tok with
    |chain=>simp[qO]at h
    |_=>simpa[qO] using h
   rw[vn hr];exact⟨tok,qA h,h⟩
 refine⟨.none,?_,by simp only[qO,hn];rfl⟩;rw[frz,if_neg h,if_pos ha]
def qf1{k:Nat}{o n:Int}{s:Str}{rows:List (List AV)}{args:List Ex}{tok:Abs.Tok}(h:∀H j,k<=j->yh (rows.map (·.map (frz H j))) (args.map qp)/\qZ (rows.map (·.map (frz H j)))=true/\(rows.map (·.map (frz H j))).all (·.all AV.atom)=true) :
 NearK (k+1) [.int .i64 o,.int .i64 n,.str s,.sl 4 rows tok] (.mk o n s args):=by
 refine⟨rfl,rfl,fun H j hj=>?_⟩;obtain⟨j,rfl⟩:∃i,j=i+1:=⟨j-1,by omega⟩;obtain⟨h1,h2,h3⟩:=h H j (by omega);obtain⟨tok',e,hn⟩:=qr6 (tok:=tok) h2 h3;have e2 : [AV.int .i64 o,.int .i64 n,.str s,.sl 4 rows tok].map (frz H (j+1))=[.int .i64 o,.int .i64 n,.str s,.sl 4 (rows.map (·.map (frz H j))) tok']:=by
  simp only[qAz,qAZ,Zi,qeC,e]
 rw[e2];refine⟨?_,by simp only[qz,hn];simp[qO],rfl⟩;rw[qc];simp only[zn,Leq,and_true,true_and,qEC,Ex.n_mk,qED,qEE];exact .inr ⟨h1,.inl trivial⟩
def qrI{k c d Y Z tok}(hc:NearK k c Y)(hd:NearK k d Z):NearK (k+1) [.int .i64 20,.int .i64 0,.str [],.sl 4 [c,d] tok] (orE Y Z) :=
 qf1 (args:=[Y,Z]) fun H j hj=>by
  obtain⟨h1,h2,h3⟩:=hc.fz H j hj;obtain⟨g1,g2,g3⟩:=hd.fz H j hj;simp only[qAz,qAZ];refine⟨v9 (.inr ⟨h1,jr _⟩) (v9 (.inr ⟨g1,jr _⟩) qga),by simp[h2,g2],by simp only[qBH,qEx,h3,g3];rfl⟩
def Jl(n:Int):List AV:=qp (jD n)
def qvy(H s n)(hs:s.length<2^20):qr (Dof prog) ⟨H,yI [] s⟩ 23 (QS 4 Jl 0 s) (.sl 4 [Jl n] .tight)=some (QS 4 Jl 0 (s++[n]),⟨H,yI [] (s++[n])⟩) :=
 yU (D:=Dof prog) (sz:=4) (T:=[]) (H:=H) (m:=[n]) (en:=Jl) D23 rfl D79 rfl (by decide) rfl (by decide) (by simp only[qAQ];omega) 4 (.inl rfl)
def qoE(f N n):(qim f N n).length<=2:=by
 unfold qim;split
 . split<;>split<;>simp
 simp
def qa9(f N):∀k,(qdh f N k).length<=2*k
 |0=>by simp[qdh]
 | k+1=>by
  have:=qa9 f N k;have:=qoE f N k;rw[Wq,qAq];omega
def QG:∀l:List Rg,(jf l).map Jl=(ka l).map qp
 |[]=>rfl
 | r::l=>by
  show Jl r.1::Jl r.2::(jf l).map Jl=qp (jD r.1)::qp (jD r.2)::(ka l).map qp;rw[QG l];rfl
def qt0(B:List Int){j}(h:32*j<B.length)(tok):∃tok',zj (.sl 4 (B.map Jl) tok) (some (.int .i64 ((32*j:Nat):Int))) (some (.int .i64 ((min (32*j+32) B.length:Nat):Int))) none=some (.sl 4 (((B.drop (32*j)).take 32).map Jl) tok'):=by
 have e:((B.map Jl).take (min (32*j+32) B.length)).drop (32*j)=((B.drop (32*j)).take 32).map Jl:=by
  rw[<- List.map_take,<- List.map_drop,qEm];congr 1;by_cases hb:32*j+32<=B.length
  . rw[qBL hb];congr 1;omega
  rw[qDv (by omega),qAs (by simp),qAs (by simp;omega)]
 refine⟨zU B.length (32*j) (min (32*j+32) B.length) none tok,?_⟩;rw[<- e];simp only[zj,zS,wW,y8,qAY,qAS,qCT];rw[if_pos]
 . simp
 refine⟨by omega,by omega,by omega,trivial⟩
def NearK.agg{k n c Y}(h:NearK k c Y)(hk:k<=n)(H):qO (frz H (n+1) (.agg c))=true/\Leq (frz H (n+1) (.agg c)) (.agg (qp Y)):=by
 obtain⟨h1,h2,h3⟩:=h.fz H n hk;by_cases hn:qO (.agg c)=true
 . have hn2:qz c=true:=(by simpa[qO] using hn);rw[qaO hn2]at h1;rw[qA hn];exact⟨hn,by simpa[Leq] using h1⟩
 have e:frz H (n+1) (.agg c)=.agg (c.map (frz H n)):=by rw[frz,if_neg hn]
 rw[e];exact⟨by simpa[qO] using h2,by simpa[Leq] using h1⟩
def qj0(s)(PP:List Rg)(tok):NearK 1 [.int .i64 23,.int .i64 0,.str [],.sl 4 (qxv s::(ka PP).map qp) tok] (Qd s PP) :=
 qf1 (k:=0) (args:=wG s::ka PP) fun H j _=>by
  have hn:=quu (ka PP);have hr:qZ (qxv s::(ka PP).map qp)=true:=by simp only[qZ,qAr];exact⟨by simp[qz,qO],hn⟩
  rw[vn hr];refine⟨?_,hr,?_⟩
  . rw[qAz];exact v9 (.inr ⟨qmJ s,jr _⟩) (WC _)
  simp only[qBH,qAr];refine⟨by simp[AV.atom],?_⟩;rw[qAv];intro x hx;obtain⟨e,_,rfl⟩:=qAN.1 hx;exact jr e
def qzx(P:List AV)(D:List AV)(V:List AV)(f:Nat->Bool)(N k:Nat)(ev:Env)(U:St):Prop :=
 ev 3=.ptr 1 0/\ev 4=.ptr 2 0/\ev 5=.ptr 3 0/\ev 6=QS 4 Jl 0 (qdh f N k)/\ev 7=.int .i64 k/\U=⟨[.cells P,.cells D,.cells [.int .i64 0,.int .i64 0,.str [],.sl 0 [] .nil],.cells V],yI [] (qdh f N k)⟩
def qd7(p:Problem)(d:Dist)(v:Var)(i:Nat)(hi:d.var=i)(hv:p.vars[i]?=some v)(hvl:p.vars.length<=1000)(hw0:0<=v.width)(hw8:v.width<=8)(hf:Fits d.weights)(hrl:(Qz (Zv v d.weights)).length<=112) :
 Pure prog GG 103 [.agg (qt p),.agg (zl d)] (.agg (qp (vE p.vars d))):=by
 refine qEF o0 true qe func103 rfl (by kernel_rfl) ?_;have hs:=wB (w:=v.width) hw0 (by omega);have hsz:=Yw hw8;rw[qbM]at hrl;rw[show vE p.vars d=yZ v.name (Qz (Zv v d.weights)) by unfold vE;rw[hi,qAS,hv],qbM];have hwn:¬v.width<0:=by omega
 have hil:=(qAm.1 hv).1;have hszd:zP v=2^v.width.toNat:=rfl;rw[<- hszd]at hs;have hpos:=fun n:Int=>qeh d.weights n hf
 have hnum:=qhw;have hb:=qoD (fun n=>vI d.weights n) (zP v);have hfn:∀n:Nat,vI d.weights (n:Int)=(fun n:Nat=>vI d.weights n) n:=fun n=>rfl
 have hbl:=qa9 (fun n=>vI d.weights n) (zP v);generalize hF:(fun n:Nat=>vI d.weights (n:Int))=f at *;generalize hN:zP v=N at *;generalize hU:yZ v.name (kv f N)=U_ at *;have hE:=qc U_;simp only[hE];simp[hi,hv,qJ];obtain⟨P,hP⟩:∃P,P=qt p:=⟨_,rfl⟩;refine qEO (fun m ev U=>∃k,m=N-k/\k<=N/\qzx P (zl d) (qJ v) f N k ev U) N ?_ ?_
 . refine⟨0,by omega,by omega,by simp,by simp,by simp,by simp[qdh],by simp,?_⟩;rw[hP];simp[qdh,qJ,hi]
 rintro m ev U R hR ⟨k,rfl,hk,e3,e4,e5,e6,e7,rfl⟩;by_cases hlt:k<N
 . have hlt':(k:Int)<N:=(by omega);have hw:=wr (n:=(k:Int)+1) (by omega) (by omega);have hwN:=wr (n:=(N:Int)) (by omega) (by omega);have hw2:=wr (n:=(k:Int)-1) (by omega) (by omega);have hgo:∀ev' T',ev' 3=.ptr 1 0->ev' 4=.ptr 2 0->ev' 5=.ptr 3 0->ev' 6=QS 4 Jl 0 (qdh f N (k+1))->ev' 7=.int .i64 ((k:Int)+1)->T'=yI [] (qdh f N (k+1))->R ev' ⟨[.cells P,.cells (zl d),.cells [.int .i64 0,.int .i64 0,.str [],.sl 0 [] .nil],.cells (qJ v)],T'⟩:=by
    rintro ev' T' a3 a4 a5 a6 a7 rfl;exact hR (N-(k+1)) _ _ (by omega) ⟨k+1,rfl,by omega,a3,a4,a5,a6,by rw[a7];simp,rfl⟩
   rw[Wq]at hgo;have hpk:=hpos k;have hpk1:=hpos (k+1);have hpk2:=hpos (k-1);simp only[qJ,zl,hi]at hgo hpk hpk1 hpk2⊢;simp[e3,e5,e7,hs,hwn,IntKind.bits,hlt'];refine qEJ (G:=zk GG) hpk (by simp) ?_;rw[hfn k]
   cases hfk:f k with
   | false=>
    have hb1:qim f N k=[]:=(by unfold qim;rw[hfk];rfl);rw[hb1,qA6]at hgo;simp[unA,e7,hw];exact hgo _ _ (by simp[e3]) (by simp[e4]) (by simp[e5]) (by simp[e6]) (by simp) rfl
   | true=>
    have hfm:k≠0->vI d.weights ((k:Int)-1)=f (k-1):=fun h=>by
     rw[show((k:Int)-1)=((k-1:Nat):Int) by omega];exact hfn _
    have hfp:vI d.weights ((k:Int)+1)=f (k+1):=hfn (k+1);have hnk:=hnum k;have hL:∀L:List Int,L.length<=1->(qdh f N k++L).length<2^20:=fun L hL=>by
     have:=qa9 f N k;rw[qAq];omega
    have hr:=fun n:Int=>(show Jl n=[.int .i64 1,.int .i64 n,.str [],.sl 4 [] .none] by simp[Jl,jD,qc])
    have hap:=fun(L:List Int) (hl:L.length<=1)=>qvy [.cells P,.cells [.int .i64 i,.sl 4 (d.weights.map qw) .none],.cells [.int .i64 0,.int .i64 0,.str [],.sl 0 [] .nil],.cells [.str v.name,.int .i64 v.width,.int .i64 v.mode,.int .i64 v.value]] (qdh f N k++L) k (hL L hl)
    have hap0:=hap [] (by simp);have hap1:=hap [(k:Int)] (by simp);rw[qA6]at hap0;rw[hr]at hap0 hap1;change Pure _ _ _ _ (.agg (Jl k)) at hnk;rw[hr]at hnk;have hA:k=0\/(k≠0/\f (k-1)=false)\/(k≠0/\f (k-1)=true):=by
     by_cases h:k=0
     . exact .inl h
     cases h2:f (k-1)
     . exact .inr (.inl ⟨h,rfl⟩)
     exact .inr (.inr ⟨h,rfl⟩)
    have hB:k+1=N\/(k+1≠N/\f (k+1)=false)\/(k+1≠N/\f (k+1)=true):=by
     by_cases h:k+1=N
     . exact .inl h
     cases h2:f (k+1)
     . exact .inr (.inl ⟨h,rfl⟩)
     exact .inr (.inr ⟨h,rfl⟩)
    have hb1:qim f N k=(if k=0\/f (k-1)=false then [(k:Int)] else [])++(if k+1=N\/f (k+1)=false then [(k:Int)] else []):=by
     unfold qim;rw[if_pos hfk]
    rw[hb1]at hgo;rcases hA with hk0|⟨hk0,hkf⟩|⟨hk0,hkf⟩
    . rw[if_pos (.inl hk0)]at hgo;simp[unA,e3,e6,e7];refine⟨fun h=>absurd hk0 h,fun _=>?_⟩;refine qEJ (G:=zk GG) hnk (by simp) ?_;simp[e5,e7,qf,qm,hap0];rcases hB with hB|⟨hB1,hB2⟩|⟨hB1,hB2⟩
      . have hB':(k:Int)+1=N:=(by omega);rw[if_pos (.inl hB)]at hgo;simp[e7,hs,hwn,IntKind.bits,hwN,hB'];refine qEJ (G:=zk GG) hnk (by simp) ?_;simp[e7,hw,qf,qm,hap1];exact hgo _ _ (by simp[e3]) (by simp[e4]) (by simp[e5]) (by simp) (by simp[hB']) (by simp)
      . have hB':¬(k:Int)+1=N:=(by omega);rw[if_pos (.inr hB2)]at hgo;rw[hfp,hB2]at hpk1;simp[e3,e7,hs,hwn,IntKind.bits,hw,hB'];refine qEJ (G:=zk GG) hpk1 (by simp) ?_;simp[unA,e7,hB'];refine qEJ (G:=zk GG) hnk (by simp) ?_;simp[e7,hw,qf,qm,hap1];exact hgo _ _ (by simp[e3]) (by simp[e4]) (by simp[e5]) (by simp) (by simp) (by simp)
      have hB':¬(k:Int)+1=N:=(by omega);rw[if_neg (fun h=>by rcases h with h|h;exact hB1 h;rw[hB2]at h;cases h)]at hgo;rw[hfp,hB2]at hpk1;simp[e3,e7,hs,hwn,IntKind.bits,hw,hB'];refine qEJ (G:=zk GG) hpk1 (by simp) ?_;simp[unA,e7,hw,hB'];exact hgo _ _ (by simp[e3]) (by simp[e4]) (by simp[e5]) (by simp[]) (by simp) (by simp)
    . have hk0':¬(k:Int)=0:=(by omega);rw[if_pos (.inr hkf)]at hgo;rw[hfm hk0,hkf]at hpk2;simp[unA,e3,e6,e7,hk0,hw2];refine qEJ (G:=zk GG) hpk2 (by simp) ?_;simp[unA,e6,e7];refine qEJ (G:=zk GG) hnk (by simp) ?_;simp[e5,e7,qf,qm,hap0];rcases hB with hB|⟨hB1,hB2⟩|⟨hB1,hB2⟩
      . have hB':(k:Int)+1=N:=(by omega);rw[if_pos (.inl hB)]at hgo;simp[e7,hs,hwn,IntKind.bits,hwN,hB'];refine qEJ (G:=zk GG) hnk (by simp) ?_;simp[e7,hw,qf,qm,hap1];exact hgo _ _ (by simp[e3]) (by simp[e4]) (by simp[e5]) (by simp) (by simp[hB']) (by simp)
      . have hB':¬(k:Int)+1=N:=(by omega);rw[if_pos (.inr hB2)]at hgo;rw[hfp,hB2]at hpk1;simp[e3,e7,hs,hwn,IntKind.bits,hw,hB'];refine qEJ (G:=zk GG) hpk1 (by simp) ?_;simp[unA,e7,hB'];refine qEJ (G:=zk GG) hnk (by simp) ?_;simp[e7,hw,qf,qm,hap1];exact hgo _ _ (by simp[e3]) (by simp[e4]) (by simp[e5]) (by simp) (by simp) (by simp)
      have hB':¬(k:Int)+1=N:=(by omega);rw[if_neg (fun h=>by rcases h with h|h;exact hB1 h;rw[hB2]at h;cases h)]at hgo;rw[hfp,hB2]at hpk1;simp[e3,e7,hs,hwn,IntKind.bits,hw,hB'];refine qEJ (G:=zk GG) hpk1 (by simp) ?_;simp[unA,e7,hw,hB'];exact hgo _ _ (by simp[e3]) (by simp[e4]) (by simp[e5]) (by simp[]) (by simp) (by simp)
    have hk0':¬(k:Int)=0:=(by omega);rw[if_neg (fun h=>by rcases h with h|h;exact hk0 h;rw[hkf]at h;cases h)]at hgo;rw[hfm hk0,hkf]at hpk2;simp[unA,e3,e6,e7,hk0,hw2];refine qEJ (G:=zk GG) hpk2 (by simp) ?_;simp[unA,e5,e7];rcases hB with hB|⟨hB1,hB2⟩|⟨hB1,hB2⟩
    . have hB':(k:Int)+1=N:=(by omega);rw[if_pos (.inl hB)]at hgo;simp[e6,e7,hs,hwn,IntKind.bits,hwN,hB'];refine qEJ (G:=zk GG) hnk (by simp) ?_;simp[e7,hw,qf,qm,hap0];exact hgo _ _ (by simp[e3]) (by simp[e4]) (by simp[e5]) (by simp) (by simp[hB']) (by simp)
    . have hB':¬(k:Int)+1=N:=(by omega);rw[if_pos (.inr hB2)]at hgo;rw[hfp,hB2]at hpk1;simp[e3,e6,e7,hs,hwn,IntKind.bits,hw,hB'];refine qEJ (G:=zk GG) hpk1 (by simp) ?_;simp[unA,e6,e7,hB'];refine qEJ (G:=zk GG) hnk (by simp) ?_;simp[e7,hw,qf,qm,hap0];exact hgo _ _ (by simp[e3]) (by simp[e4]) (by simp[e5]) (by simp) (by simp) (by simp)
    have hB':¬(k:Int)+1=N:=(by omega);rw[if_neg (fun h=>by rcases h with h|h;exact hB1 h;rw[hB2]at h;cases h)]at hgo;rw[hfp,hB2]at hpk1;simp[e3,e6,e7,hs,hwn,IntKind.bits,hw,hB'];refine qEJ (G:=zk GG) hpk1 (by simp) ?_;simp[unA,e7,hw,hB'];exact hgo _ _ (by simp[e3]) (by simp[e4]) (by simp[e5]) (by simp[e6]) (by simp) (by simp)
 have hkN:k=N:=by omega
 subst hkN;have hlt':¬(k:Int)<k:=by omega
 rw[hb]at e6⊢;have hRl:(kv f k).length<=k:=by
  have h1:=hbl k;rw[hb,ZY]at h1;omega
 have hn0:=hnum 0;change Pure _ _ _ _ (.agg (Jl 0)) at hn0;have hr:=fun n:Int=>(show Jl n=[.int .i64 1,.int .i64 n,.str [],.sl 4 [] .none] by simp[Jl,jD,qc])
 rw[hr]at hn0;simp only[qJ,zl,hi];simp[e5,e7,hs,hwn,IntKind.bits,hlt'];refine qEJ (G:=zk GG) hn0 (by simp) ?_;generalize kv f k=RG at *;simp[qM];refine qEO (fun m ev U=>∃(j:Nat) (c:List AV) (out:Ex) (t:List Blk) (T:List (Option Nat)),m=RG.length-16*j/\16*j<RG.length+16/\ev 4=.ptr 2 0/\ev 5=.ptr 3 0/\ev 6=QS 4 Jl 0 (jf RG)/\ev 8=.ptr 4 0/\ev 9=.int .i64 ((32*j:Nat):Int) /\
  U=⟨.cells P::.cells [.int .i64 i,.sl 4 (d.weights.map qw) .none]::.cells [.int .i64 0,.int .i64 0,.str [],.sl 0 [] .nil]::.cells [.str v.name,.int .i64 v.width,.int .i64 v.mode,.int .i64 v.value]::.cells c::t,T⟩/\NearK j c out /\
  ((j=0/\out=jD 0)\/(0<j/\∃kk,(RG.drop (16*j)).length<=kk/\U_=Qq v.name out (z4 16 kk (RG.drop (16*j)))))) RG.length ?_ ?_
 . refine⟨0,_,jD 0,[],_,by omega,by omega,by simp[e4],by simp[e5],by simp[e6],by simp,by simp,rfl,?_,.inl ⟨rfl,rfl⟩⟩;refine⟨rfl,rfl,fun H j _=>?_⟩;rw[qaO (by simp[qz,qO])];have:=qER (Jl 0);rw[hr]at this;refine⟨?_,by simp[qz,qO],rfl⟩;rw[show qp (jD 0)=Jl 0 from rfl,hr];exact this
 rintro m ev U R hR ⟨j,c,out,t,T,rfl,hj,e4,e5,e6,e8,e9,rfl,hnear,hst⟩;obtain⟨c0,c1,c2,c3,rfl⟩:∃c0 c1 c2 c3,c=[c0,c1,c2,c3]:=by
  have:=hnear.len
  match c,this with
  |[c0,c1,c2,c3],_=>exact⟨c0,c1,c2,c3,rfl⟩
 have hac:=qlQ hnear.atoms;have hfl:=ZY RG;by_cases hlt:16*j<RG.length
 . have hB:32*j<(jf RG).length:=(by omega);have hlt':((32*j:Nat):Int)<((jf RG).length:Nat):=(by omega);obtain⟨a,q,hq⟩:∃a q,jf RG=a::q:=by
    cases h:jf RG with
    |nil=>rw[h]at hB;simp at hB
    |cons a q=>exact⟨a,q,rfl⟩
   have e6':ev 6=.sl 4 ((jf RG).map Jl) (.chain 0 (jf RG).length):=(by rw[e6,hq];rfl);obtain⟨tok',hsl⟩:=qt0 (jf RG) hB (.chain 0 (jf RG).length);have hcut:=qh6 RG j;rw[hcut,QG ((RG.drop (16*j)).take 16)]at hsl;have hw1:=wr (n:=((32*j:Nat):Int)+32) (by omega) (by omega);have hmin:wQ (.int .i64 (((32*j:Nat):Int)+32)) (.int .i64 ((jf RG).length:Nat))=some (.int .i64 ((min (32*j+32) (jf RG).length:Nat):Int)):=by
    simp only[wQ];congr 2;split<;>omega
   have hPl:((RG.drop (16*j)).take 16).length<=16:=(by simp;omega);have hPne:(RG.drop (16*j)).take 16≠[]:=fun h=>by
    have:=congrArg List.length h;simp at this;omega
   generalize hPP:(RG.drop (16*j)).take 16=PP at *;have hnl:((ka PP).map qp).length<=32:=(by rw[<- QG,qAY,ZY];omega);have hnne:(ka PP).map qp≠[]:=fun h=>hPne (by
    have:=congrArg List.length h;rw[<- QG,qAY,ZY]at this;refine qAA ?_;simp only[qBh]at this;omega)
   have hlP:=WC ((ka PP).map qp);generalize hNN:(ka PP).map qp=NN at *;generalize hBB:(jf RG).map Jl=BB at *;generalize hb':(jf RG).length=b at *;generalize hmm:min (32*j+32) b=mm at *;have hN1:1+NN.length<=549755813888:=(by omega);have hBl:BB.length=b:=(by rw[<- hBB,qAY,hb']);simp[-qV,-Int.natCast_mul,hac,e5,e6',e8,e9,hBl,hlt',hw1,hmin,hsl,zs,zW,qM,qf,qm,qr,qY,hnne,hN1];have hne:=fun k' (h:k'≥1)=>(qj0 v.name PP (.chain T.length NN.length)).mono h
   rw[hNN]at hne;have hdl:(RG.drop (16*(j+1)))=(RG.drop (16*j)).drop 16:=(by rw[qDE];congr 1);refine⟨fun h0=>?_,fun h0=>?_⟩
   . have hj0:j=0:=(by omega);subst hj0;refine hR (RG.length-16*(0+1)) _ _ (by omega) ⟨1,_,Qd v.name PP,_,_,by omega,by omega,by simp[e4],by simp[e5],by simp[e6],by simp[e8],by simp,rfl,hne 1 (by omega),.inr ⟨by omega,RG.length,by simp,?_⟩⟩;have hRne:RG≠[]:=fun h=>by rw[h]at hlt;simp at hlt
     rw[<- hU];unfold yZ;rw[if_neg hRne,<- hPP];rfl
   obtain⟨kk,hkk,hUk⟩:∃kk,(RG.drop (16*j)).length<=kk/\U_=Qq v.name out (z4 16 kk (RG.drop (16*j))):=by
    rcases hst with⟨rfl,_⟩|⟨_,h⟩
    . omega
    exact h
   have hor:=qrI (tok:=.tight) hnear (hne j (by omega));have hRd:RG.drop (16*j)≠[]:=fun h=>by
    have:=congrArg List.length h;simp at this;omega
   obtain⟨kk,rfl⟩:∃k',kk=k'+1:=⟨kk-1,by
    have:=qAI.2 hRd;omega⟩
   rw[z4,if_neg hRd,hPP]at hUk;refine hR (RG.length-16*(j+1)) _ _ (by omega) ⟨j+1,_,orE out (Qd v.name PP),_,_,rfl,by omega,by simp[e4],by simp[e5],by simp[e6],by simp[e8],by simp;omega,rfl,hor,.inr ⟨by omega,kk,?_,?_⟩⟩
   . rw[hdl,qCd];omega
   rw[hdl];exact hUk
 have hUo:U_=out:=by
  rcases hst with⟨rfl,rfl⟩|⟨_,kk,_,h⟩
  . have:RG=[]:=qAA (by omega);rw[<- hU,this];rfl
  rw[show RG.drop (16*j)=[] by simp;omega]at h;rw[show z4 16 kk ([]:List Rg)=[] by cases kk<;>simp[z4]]at h;exact h
 subst hUo;obtain⟨sz6,tok6,h6⟩:∃sz tok,QS 4 Jl 0 (jf RG)=.sl sz ((jf RG).map Jl) tok:=by
  cases jf RG with
  |nil=>exact⟨_,_,rfl⟩
  |cons a q=>exact⟨_,_,rfl⟩
 rw[h6]at e6;simp[-qV,-fin,-ky,-vG,-Int.natCast_mul,hac,e4,e6,e8,e9,show ¬((32*j:Nat):Int)<((jf RG).length:Nat) by omega];have hj7:j<=7:=by
  rcases hst with⟨rfl,_⟩|_<;>omega
 have:=hnear.agg (n:=7) (by omega);rw[hE]at this;exact this _
def qvz(H s e)(hs:s.length<2^30):qr (Dof prog) ⟨H,yI [] s⟩ 23 (QS 4 qp 0 s) (.sl 4 [qp e] .tight)=some (QS 4 qp 0 (s++[e]),⟨H,yI [] (s++[e])⟩) :=
 yU (D:=Dof prog) (sz:=4) (T:=[]) (H:=H) (m:=[e]) (en:=qp) D23 rfl D79 rfl (by decide) rfl (by decide) (by simp only[qAQ];omega) 4 (.inl rfl)
def Kq(p)(h:VQ p)(hfl:p.groups.flatten.length<4611686018427387904)(hd:p.dists.length<=10000)(hrl:∀d∈p.dists,∀v:Var,(Qz (Zv v d.weights)).length<=112):Pure prog GG 58 [.agg (qt p)] (.sl 4 ((jF p).map qp) .none):=by
 refine qEG qe func58 rfl (by kernel_rfl) ?_;have hval:=Yr p h hfl;simp only[qt]at hval;by_cases hv:qk p=0
 case neg=>
  have:jF p=[]:=if_neg hv;rw[this];simp[-getElem?_pos];refine qEJ (G:=zk GG) hval (by simp) ?_;simp[-getElem?_pos,hv,Leq]
 have hs:jF p=p.dists.map (vE p.vars):=if_pos hv;rw[hs];obtain⟨S,hS⟩:∃S,S=p.dists.map (vE p.vars):=⟨_,rfl⟩;rw[<- hS];simp[-getElem?_pos];refine qEJ (G:=zk GG) hval (by simp) ?_;simp[-getElem?_pos,hv];have hvd:=qdQ hv;refine qEN p.dists (fun d ev U=>ev 1=.ptr 0 0/\ev 3=QS 4 qp 0 (d.map (vE p.vars))/\ev 4=.int .i64 d.length/\U=⟨[.cells (qt p)],yI [] (d.map (vE p.vars))⟩) ?_ ?_ ?_
 . simp
 . rintro d x rest ev U hd2 hx hlt ⟨e1,e3,e4,rfl⟩;have hdw:=wr (n:=(d.length:Int)+1) (by omega) (by omega);have hm:=qAn hx;obtain⟨i,v,hi,hvi⟩:=hvd x hm;have hvw:=zd (z0 hv v (qAn hvi));have hsup:=qd7 p x v i hi hvi h.vars (by omega) (by omega) (h.weights x hm) (hrl x hm v);have hsn:(d++[x]).map (vE p.vars)=d.map (vE p.vars)++[vE p.vars x]:=(by simp);have hml:(d.map (vE p.vars)).length=d.length:=(by simp);rw[hsn];generalize vE p.vars x=X at *;generalize d.map (vE p.vars)=D at *;have ha:=yF X;have hl4:=zh X;have happ:=qvz [.cells (qt p)] D X (by omega);simp only[qt]at hsup happ;simp[-getElem?_pos,-qV,e1,e3,e4,hlt,hx];refine qEJ (G:=zk GG) hsup (by simp) ?_;simp[-getElem?_pos,-qV,ha,hl4,e1,e4,hdw,qf,qm,happ]
 rintro ev U ⟨e1,e3,e4,rfl⟩;rw[<- hS]at e3⊢;simp[-getElem?_pos,-fin,-ky,-vG,e1,e3,e4]
def qhy(op:Int)(x y:Nat)(hx:x<65536)(hy:y<65536):Pure prog GG 328 [.int .i64 op,.int .i64 x,.int .i64 y] (.int .i64 (jU op x y)):=by
 refine qE9 qe func328 rfl (by kernel_rfl) ?_;have n1:=qj2 hx hy;have n2:=qpw hx hy;have n3:=qj1 hx hy;by_cases h7:op=7
 . subst h7;simp;refine qET (qjC x y) rfl ?_;simp[jU]
 by_cases h8:op=8
 . subst h8;simp;refine qET (qq2 x y) rfl ?_;simp[jU]
 by_cases h9:op=9
 . subst h9;simp;refine qET (qq6 x y) rfl ?_;simp[jU]
 by_cases h10:op=10
 . subst h10;have hb:jU 10 x y=((x &&& y:Nat):Int):=(by simp[jU]);rw[hb];simp;refine qET (qrc x y hx hy) rfl ?_;simp
 by_cases h11:op=11
 . subst h11;have hb:jU 11 x y=((x ||| y:Nat):Int):=(by simp[jU]);rw[hb];simp;refine qET (qua x y hx hy) rfl ?_;simp
 by_cases h12:op=12
 . subst h12;have hb:jU 12 x y=((x ^^^ y:Nat):Int):=(by simp[jU]);rw[hb];simp;refine qET (qq1 x y hx hy) rfl ?_;simp
 by_cases h13:op=13
 . subst h13;simp;refine qET (qq3 x y) rfl ?_;simp[jU,qs7]
 by_cases h14:op=14
 . subst h14;simp;refine qET (qjp x y) rfl ?_;simp[jU,qpb]
 by_cases h15:op=15
 . subst h15;simp;refine qET (jZ _) rfl ?_
   try simp only[qeX]
   by_cases h:x=y<;>simp[jU,h]
 by_cases h16:op=16
 . subst h16;simp;refine qET (jZ _) rfl ?_
   try simp only[Qr]
   by_cases h:x=y<;>simp[jU,h]
 by_cases h17:op=17
 . subst h17;simp;refine qET (jZ _) rfl ?_;by_cases h:x<y<;>simp[jU,h]
 by_cases h18:op=18
 . subst h18;simp;refine qET (jZ _) rfl ?_;by_cases h:x<=y<;>simp[jU,h]
 by_cases h19:op=19
 . subst h19;by_cases h:x=0
   . simp[h];refine qET (jZ _) rfl ?_;simp[jU]
   simp[h];refine qET (jZ _) rfl ?_
   (try simp only[Qr]);by_cases h':y=0<;>simp[jU,h,h']
 by_cases h20:op=20
 . subst h20;by_cases h:x=0
   . simp[h];refine qET (jZ _) rfl ?_
     (try simp only[Qr]);by_cases h':y=0<;>simp[jU,h']
   simp[h];refine qET (jZ _) rfl ?_;simp[jU,h]
 have hb:jU op x y=b2i (decide ((x:Int)=0)||!decide ((y:Int)=0)):=by simp[jU,h7,h8,h9,h10,h11,h12,h13,h14,h15,h16,h17,h18,h19,h20]
 rw[hb];by_cases h:x=0
 . simp[h7,h8,h9,h10,h11,h12,h13,h14,h15,h16,h17,h18,h19,h20,h];refine qET (jZ _) rfl ?_;simp
 simp[h7,h8,h9,h10,h11,h12,h13,h14,h15,h16,h17,h18,h19,h20,h];refine qET (jZ _) rfl ?_
 try simp only[Qr]
 by_cases h':y=0<;>simp[h']
