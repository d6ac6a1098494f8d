import Derived.Test.YtimecmegnocamaaGreatDoorPq42
set_option maxHeartbeats 16000000
set_option maxRecDepth 100000
set_option linter.all false
set_option linter.defProp false
namespace Go.Proofs.YtimecmegnocamaaGreatDoor
open Go Go.Abs Tryz
def NG(p:Problem):List (List Nat):=p.groups.map fun g=>g.map Int.toNat
def yv(g:List Nat):List AV:=[.sl 1 (g.map zJ) .none]
def WL{p}(h:qo p=0):p.groups.map qD=(NG p).map yv:=by
 unfold NG;rw[qCo];refine qCa fun g hg=>?_
 simp only[qD,yv,Function.comp,qCo];congr 2;refine qCa fun i hi=>?_
 obtain⟨n,rfl,_⟩:=YG h i (qBv.2 ⟨g,hg,hi⟩);simp[zJ]
def Zv{p}(h:qo p=0):p.groups.flatten=(NG p).flatten.map fun n:Nat=>(n:Int):=by
 unfold NG;have:∀(G:List (List Int)),(∀i∈G.flatten,∃n:Nat,i=n)->G.flatten=(G.map fun g=>g.map Int.toNat).flatten.map fun n:Nat=>(n:Int):=by
  intro G hG
  induction G with
  |nil=>rfl
  | cons g r ih=>
   rw[qBI,qA7,qBI,qBV,<- ih fun i hi=>hG i (by simp at hi⊢;exact .inr hi),qCo];congr 1;have:g=g.map id:=by simp
   rw[this,qCo];refine qCa fun i hi=>?_
   obtain⟨n,rfl⟩:=hG i (by simp[hi]);simp
 exact this _ fun i hi=>by obtain⟨n,h1,_⟩:=YG h i hi;exact⟨n,h1⟩
def AsR(r:AV)(a:List Int)(H:List Blk):Prop:=(∃tok,r=.sl 1 (a.map qh) tok)\/∃N,r=.ms N 0 a.length 1/\H[N]?=some (.cells (zb a))
def AsR.at{r}{a:List Int}{H}(h:AsR r a H){j:Nat}{x:Int}(hj:a[j]?=some x):∃u,zH (Dof prog) 28 r (.int .i64 (j:Int))=some u/\∀w T,kD (Dof prog) ⟨H++w,T⟩ 3 u=some (.int .i64 x):=by
 have hl:=(qAU.1 hj).1;rcases h with⟨tok,rfl⟩|⟨N,rfl,hN⟩
 . exact⟨.rptr [.int .i64 x],by simp[hj],fun w T=>by simp⟩
 have hl':(j:Int)<a.length:=by omega
 have hl1:j+1<=a.length:=hl;have hdr:(zb a).drop j=.int .i64 x::(zb a).drop (j+1):=by
  obtain⟨h1,h2⟩:=qAU.1 (by rw[qa4,hj];rfl);rw[qA9 h1,h2]
 exact⟨.ptr N j,by simp[hl'],fun w T=>by simp[*,qf hN,qR]⟩
def AsR.at0{r}{a:List Int}{H}(h:AsR r a H){j:Nat}{x:Int}(hj:a[j]?=some x):∃u,zH (Dof prog) 28 r (.int .i64 (j:Int))=some u/\∀T,kD (Dof prog) ⟨H,T⟩ 3 u=some (.int .i64 x):=by
 obtain⟨u,h1,h2⟩:=h.at hj;exact⟨u,h1,fun T=>by have:=h2 [] T;rwa[qBC]at this⟩
def AsR.len{r a H}(h:AsR r a H)(U):YD (Dof prog) U 28 r=some (.int .i64 (a.length:Nat)):=by
 rcases h with⟨tok,rfl⟩|⟨N,rfl,_⟩<;>simp
def AsR.keep{r a H H' bs}(h:AsR r a H)(hk:KpL bs H H')(hb:∀N o n z,r=.ms N o n z->N∉bs):AsR r a H':=by
 rcases h with h|⟨N,rfl,hN⟩
 . exact .inl h
 exact .inr ⟨N,rfl,hk.2 _ _ hN (hb _ _ _ _ rfl)⟩
def aN(a:List Int)(i:Nat):Nat:=(a.getD i 0).toNat
def ZS(s:Spc)(d:List Nd)(a:List Int)(l:List Nat):Nat:=l.foldl (fun node i=>vG d (Js s.lv i) (jO s.p i) (aN a i) node (jO s.p i)) s.root
def Vr(s:Spc)(a:List Int)(l:List Nat):List Ex:=s.R++l.map fun i=>eqE (Ym s.p i) (aN a i:Int)
structure SpG(s)(a:List Int)(l):Prop where
 gr:qtZ s l
 val:∀i∈l,∃n:Nat,a[i]?=some (n:Int)/\n<65536
def qkH{g:List Nat}{tok:Tok}{k i:Nat}(h:g[k]?=some i):zH (Dof prog) 28 (.sl 1 (g.map zJ) tok) (.int .i64 (k:Int))=some (.rptr [.int .i64 (i:Int)]):=by simp[h,zJ]
def qpT{U:St}{i:Nat}:kD (Dof prog) U 3 (.rptr [.int .i64 (i:Int)])=some (.int .i64 (i:Int)):=by simp
def qfP:List (Nat×Sch×List Nat):=[(21,.step 0 [11,10,9,8,1] (.step 1 [11,10,9,8] (.step 2 [11,10,9,8] (.step 3 [11,10,9,8] (.step 4 [11,10,9,8,7,6] (.step 5 [11,10,9,8,7,6] (.step 6 [11,10,9,8,7] (.step 7 [11,10,9,8] (.step 8 [11,10,9] (.step 9 [11,10] (.step 10 [11] (.step 11 [] (.done)))))))))))),[8])]
def qpw{G:List (List Nat)}{gi}(h:gi<=G.length):zk (.sl 1 (G.map yv) .none) none (some (.int .i64 (gi:Int))) none=some (.sl 1 ((G.take gi).map yv) .none):=by
 simp[zk,zR,yT,zT,h]
def qq6{s}(hvp:qo s.p=0)(hsm:s.small=true){d tok}(hd:DagOk d)(hdv:s.dv=.sl 3 (d.map qN) tok)(hroot:s.root<d.length){fx}(hfx:∀i x,fx i=some x->x<65536){m gi g}(hgi:(NG s.p)[gi]?=some g)(hgl:∀g∈NG s.p,g.length<=1000)(hGl:(NG s.p).length<=1000)
 {r a H} (hg:qtZ s g) (hpre:SpG s a ((NG s.p).take gi).flatten) (hs:SpOk s H) (hf:qiL m fx H) (ha:AsR r a H) (T):
 qj prog GG 42 [.ptr s.S 0,.int .i64 gi,r,m] ⟨H,T⟩ (fun v U'=>v=.int .i64 (qbq s.p s.lv d fx g (ZS s d a ((NG s.p).take gi).flatten):Nat)/\KpL [] H U'.H):=by
 refine qFn ⟨false,qfP,[],[]⟩ qg func42 rfl (by kernel_rfl) ?_;have hS:=hs.c;have hgil:=(qAU.1 hgi).1;have hgil':(gi:Int)<(NG s.p).length:=by omega
 have hG:=WL hvp;simp only[spE,qA,qBl,qBk,hsm,hdv,hG]at hS;have hsl:=qpw (G:=NG s.p) (gi:=gi) (by omega);have htl:((NG s.p).take gi).length<=1000:=by rw[qBG];omega
 have htm:∀g∈(NG s.p).take gi,g.length<=1000:=fun g hg=>hgl g (qBH hg)
 obtain⟨PG,hPG⟩:∃PG,PG=(NG s.p).take gi:=⟨_,rfl⟩;rw[<- hPG]at hsl htl htm hpre⊢;simp[hS,hgi,yv,hsl];have hgg:=hgl g (qAV hgi);refine qFF PG (fun dn ev U=>ev 0=.ptr s.S 0/\ev 2=r/\ev 3=m/\ev 9=.sl 1 (g.map zJ) .none/\ev 10=.int .i64 (ZS s d a dn.flatten:Nat)/\ev 42=.sl 1 (PG.map yv) .none/\ev 43=.int .i64 PG.length/\ev 44=.int .i64 dn.length/\ZS s d a dn.flatten<d.length/\KpL [] H U.H) ?_ ?_ ?_
 . exact⟨by simp,by simp,by simp,by simp,by simp[ZS],by simp,by simp,by simp,hroot,qFV⟩
 . rintro dn g1 rest ev ⟨H1,T1⟩ R hR hdl hx hlt ⟨e0,e2,e3,e9,e10,e42,e43,e44,hnl,hkp⟩;have hdw:=wr (n:=(dn.length:Int)+1) (by omega) (by omega);have hg1m:=qAV hx;have hg1l:=htm g1 hg1m;simp[e42,e43,e44,show(dn.length:Int)<PG.length by omega,hx,yv];refine qFF g1 (fun dg ev U=>ev 0=.ptr s.S 0/\ev 2=r/\ev 3=m/\ev 9=.sl 1 (g.map zJ) .none/\ev 10=.int .i64 (ZS s d a (dn.flatten++dg):Nat)/\ev 42=.sl 1 (PG.map yv) .none/\ev 43=.int .i64 PG.length/\ev 44=.int .i64 dn.length/\ev 48=.sl 1 (g1.map zJ) .none/\ev 49=.int .i64 g1.length/\ev 50=.int .i64 dg.length/\ZS s d a (dn.flatten++dg)<d.length/\KpL [] H U.H) ?_ ?_ ?_
   . exact⟨by simp[e0],by simp[e2],by simp[e3],by simp[e9],by simp[e10],by simp[e42],by simp[e43],by simp[e44],by simp,by simp,by simp,by simpa using hnl,hkp⟩
   . rintro dg i rest2 ev ⟨H2,T2⟩ R2 hR2 hdl2 hx2 hlt2 ⟨e0,e2,e3,e9,e10,e42,e43,e44,e48,e49,e50,hnl2,hkp2⟩;have hdw2:=wr (n:=(dg.length:Int)+1) (by omega) (by omega);have him:=qBv.2 ⟨g1,hg1m,qAV hx2⟩;obtain⟨v,l,hv,hw0,hw8,hl,hl20,_⟩:=hpre.gr i him;obtain⟨n,hna,hn16⟩:=hpre.val i him;have hs2:=hs.keep hkp2 (by simp) (by simp) (by simp);have ha2:=ha.keep hkp2 (by simp);obtain⟨u,hu1,hu2⟩:=ha2.at0 hna;have hdes:=VZ hs2 hd hdv hv hl ⟨hw0,hw8⟩ hl20 hnl2 (val:=n) (by omega) T2;have hsn:ZS s d a (dn.flatten++(dg++[i]))=vG d l v.width.toNat n (ZS s d a (dn.flatten++dg)) v.width.toNat:=by
      rw[<- qBE];unfold ZS;rw[qBX];simp only[qBw,List.foldl_nil,show Js s.lv i=l by simp[Js,qA8,hl],show jO s.p i=v.width.toNat by simp[jO,zP,hv],show aN a i=n by simp[aN,qA8,hna]]
     have hnl3:=YM hd hnl2 l v.width.toNat n v.width.toNat;rw[<- hsn]at hdes hnl3;have hix:=qkH (tok:=.none) hx2;generalize ZS s d a (dn.flatten++dg)=nd at *;generalize hn2:ZS s d a (dn.flatten++(dg++[i]))=nd2 at *;simp[-zH,-kD,e0,e2,e10,e48,e49,e50,show(dg.length:Int)<g1.length by omega,hix,qpT,hu1,hu2];refine qFs hdes ?_;rintro w ⟨H3,T3⟩ ⟨rfl,hk3⟩;simp[e50,hdw2];exact hR2 _ _ ⟨by simp[e0],by simp[e2],by simp[e3],by simp[e9],by simp,by simp[e42],by simp[e43],by simp[e44],by simp[e48],by simp[e49],by simp,by first|exact hnl3|(rwa[hn2]),hkp2.trans hk3⟩
   rintro ev ⟨H2,T2⟩ ⟨e0,e2,e3,e9,e10,e42,e43,e44,e48,e49,e50,hnl2,hkp2⟩;simp[e44,e49,e50,hdw];exact hR _ _ ⟨by simp[e0],by simp[e2],by simp[e3],by simp[e9],by simp[e10],by simp[e42],by simp[e43],by simp,by simpa using hnl2,hkp2⟩
 rintro ev ⟨H1,T1⟩ ⟨e0,e2,e3,e9,e10,e42,e43,e44,hnl,hkp⟩;dsimp only at hkp;have hH1l:=hkp.1;have hs1:=hs.keep hkp (by simp) (by simp) (by simp);have hf1:=hf.keep hkp (by simp);have hSl:=(qAU.1 hs.c).1;obtain⟨cw,hL,hcw⟩:=hs.w;have hLl:=(qAU.1 hL).1;have hLLl:=hs.b;have hs2:=hs1.keep (H':=H1++[.map [] 0]) (bs:=[]) qFX (by simp) (by simp) (by simp);have hf2:=hf1.keep (H':=H1++[.map [] 0]) (bs:=[]) qFX (by simp);have hmF:∀F,m=.map F->F≠H1.length:=fun F hF=>by
  rcases hf1 with⟨rfl,_⟩|⟨F',es,n,rfl,hF',_⟩
  . cases hF
  cases hF;have:=(qAU.1 hF').1;omega
 have hsu:=qjh hd hdv hfx hg hgg (K:=H1.length) (by omega) (by omega) (by omega) hmF g.length 0 (by omega) (ZS s d a PG.flatten) (H1++[.map [] 0]) T1 hnl hs2 hf2 ⟨[],0,lk0,by simp⟩;simp only[qDt]at hsu;simp[e0,e3,e9,e10,e43,e44,zu,zZ,qP];refine qFs hsu ?_;rintro w ⟨H3,T3⟩ ⟨rfl,hk3,_⟩;simp;refine hkp.trans ⟨by have:=hk3.1;simp at this;omega,fun k x hk _=>hk3.2 _ _ (qf hk _) (by have:=(qAU.1 hk).1;simp;omega)⟩
def qq5{s}(hvq:VQ s.p)(hvp:qo s.p=0)(hv20:s.p.vars.length<=20)(hb:wh s.p.vars (qQ s.p)<=18)(hsm:s.small=false)(hRk:∀e∈s.R,zB s.p.vars e=0/\Ji e)(hRl:s.R.length<=50000)(hrt:qtl s.R s.rtok){fx}(hfx:∀i x,fx i=some x->x<65536){m gi g}(hgi:(NG s.p)[gi]?=some g)(hgl:∀g∈NG s.p,g.length<=1000)(hGl:(NG s.p).length<=1000)(hfl:(NG s.p).flatten.length<=1000)
 {r a H} (hg:qtZ s g) (hpre:SpG s a ((NG s.p).take gi).flatten) (hs:SpOk s H) (hf:qiL m fx H) (ha:AsR r a H) (T):
 qj prog GG 42 [.ptr s.S 0,.int .i64 gi,r,m] ⟨H,T⟩ (fun v U'=>v=.int .i64 (qd3 s.p fx g (Vr s a ((NG s.p).take gi).flatten):Nat)/\KpL [] H U'.H):=by
 refine qFn ⟨false,qfP,[],[]⟩ qg func42 rfl (by kernel_rfl) ?_;have hS:=hs.c;have hgil:=(qAU.1 hgi).1;have hgil':(gi:Int)<(NG s.p).length:=by omega
 have hG:=WL hvp;simp only[spE,qA,qBl,qBk,hsm,hG]at hS;have hsl:=qpw (G:=NG s.p) (gi:=gi) (by omega);have htl:((NG s.p).take gi).length<=1000:=by rw[qBG];omega
 have htm:∀g∈(NG s.p).take gi,g.length<=1000:=fun g hg=>hgl g (qBH hg)
 have hfl2:((NG s.p).take gi).flatten.length<=1000:=by
  have:(NG s.p).flatten=((NG s.p).take gi).flatten++((NG s.p).drop gi).flatten:=by rw[<- qCW,qBF]
  rw[this,qAY]at hfl;omega
 obtain⟨PG,hPG⟩:∃PG,PG=(NG s.p).take gi:=⟨_,rfl⟩;rw[<- hPG]at hsl htl htm hpre hfl2⊢;simp[hS,hgi,yv,hsl];have hgg:=hgl g (qAV hgi);have hrl:∀l,(Vr s a l).length=s.R.length+l.length:=fun l=>by simp[Vr]
 refine qFF PG (fun dn ev U=>ev 0=.ptr s.S 0/\ev 2=r/\ev 3=m/\ev 9=.sl 1 (g.map zJ) .none/\(∃tok,ev 15=.sl 4 ((Vr s a dn.flatten).map qt) tok/\qtl (Vr s a dn.flatten) tok)/\ev 81=.sl 1 (PG.map yv) .none/\ev 82=.int .i64 PG.length/\ev 83=.int .i64 dn.length/\KpL [] H U.H) ?_ ?_ ?_
 . exact⟨by simp,by simp,by simp,by simp,⟨s.rtok,by simp[Vr],by simpa[Vr] using hrt⟩,by simp,by simp,by simp,qFV⟩
 . rintro dn g1 rest ev ⟨H1,T1⟩ R hR hdl hx hlt ⟨e0,e2,e3,e9,⟨tok,e15,htok⟩,e81,e82,e83,hkp⟩;have hdw:=wr (n:=(dn.length:Int)+1) (by omega) (by omega);have hg1m:=qAV hx;have hg1l:=htm g1 hg1m;simp[e81,e82,e83,show(dn.length:Int)<PG.length by omega,hx,yv];refine qFF g1 (fun dg ev U=>ev 0=.ptr s.S 0/\ev 2=r/\ev 3=m/\ev 9=.sl 1 (g.map zJ) .none/\(∃tok,ev 15=.sl 4 ((Vr s a (dn.flatten++dg)).map qt) tok/\qtl (Vr s a (dn.flatten++dg)) tok)/\ev 81=.sl 1 (PG.map yv) .none/\ev 82=.int .i64 PG.length/\ev 83=.int .i64 dn.length/\ev 87=.sl 1 (g1.map zJ) .none/\ev 88=.int .i64 g1.length/\ev 89=.int .i64 dg.length/\KpL [] H U.H) ?_ ?_ ?_
   . exact⟨by simp[e0],by simp[e2],by simp[e3],by simp[e9],⟨tok,by simp[e15],by simpa using htok⟩,by simp[e81],by simp[e82],by simp[e83],by simp,by simp,by simp,hkp⟩
   . rintro dg i rest2 ev ⟨H2,T2⟩ R2 hR2 hdl2 hx2 hlt2 ⟨e0,e2,e3,e9,⟨tok,e15,htok⟩,e81,e82,e83,e87,e88,e89,hkp2⟩;have hdw2:=wr (n:=(dg.length:Int)+1) (by omega) (by omega);have him:=qBv.2 ⟨g1,hg1m,qAV hx2⟩;obtain⟨v,l,hv,hw0,hw8,hl,hl20,_⟩:=hpre.gr i him;obtain⟨n,hna,hn16⟩:=hpre.val i him;have hs2:=hs.keep hkp2 (by simp) (by simp) (by simp);have ha2:=ha.keep hkp2 (by simp);obtain⟨u,hu1,hu2⟩:=ha2.at0 hna;have heq:=qdb hs2 hv (n:Int) T2;have hsn:Vr s a (dn.flatten++(dg++[i]))=Vr s a (dn.flatten++dg)++[eqE v.name (n:Int)]:=by
      have h2:Ym s.p i=v.name:=(by simp[Ym,hv]);have h3:aN a i=n:=(by simp[aN,qA8,hna]);simp[Vr,h2,h3]
     have hlen2:(Vr s a (dn.flatten++dg)).length<=60000:=by
      rw[hrl];have:(dn.flatten++dg).length<=PG.flatten.length:=by rw[hdl,hdl2];simp
      omega
     have hcl:=qlz (Vr s a (dn.flatten++dg)) (quF tok) htok.p;have hae:=yN (eqE v.name (n:Int));have hl4:=zo (eqE v.name (n:Int));have hap:=fun H T=>qaO (R:=Vr s a (dn.flatten++dg)) (X:=eqE v.name (n:Int)) (H:=H) (T:=T) (by omega)
     have hix:=qkH (tok:=.none) hx2;generalize Vr s a (dn.flatten++dg)=R0 at *;generalize eqE v.name (n:Int)=X at *;simp[-zH,-kD,e87,e88,e89,show(dg.length:Int)<g1.length by omega,hix,qpT];rw[qU rfl];simp[-qZ,-zH,-kD,zg,e15];refine qFq hcl (by cases tok<;>simp) (by cases tok<;>simp[quF]) ?_;simp[-qZ,-zH,-kD,zg,e0,e2,hu1,hu2];refine qFs heq ?_;rintro w ⟨H3,T3⟩ ⟨rfl,hk3⟩;simp[-qZ,zg,hae,hl4,qi,qp,hap,e89,hdw2];refine hR2 _ _ ⟨by simp[e0],by simp[e2],by simp[e3],by simp[e9],⟨.chain T3.length 1,by simp[hsn],by rw[hsn];exact .inl (by simp)⟩,by simp[e81],by simp[e82],by simp[e83],by simp[e87],by simp[e88],by simp,hkp2.trans hk3⟩
   rintro ev ⟨H2,T2⟩ ⟨e0,e2,e3,e9,⟨tok,e15,htok⟩,e81,e82,e83,e87,e88,e89,hkp2⟩;simp[e83,e88,e89,hdw];exact hR _ _ ⟨by simp[e0],by simp[e2],by simp[e3],by simp[e9],⟨tok,by simp[e15],by simpa using htok⟩,by simp[e81],by simp[e82],by simp,hkp2⟩
 rintro ev ⟨H1,T1⟩ ⟨e0,e2,e3,e9,⟨tok,e15,htok⟩,e81,e82,e83,hkp⟩;have hs1:=hs.keep hkp (by simp) (by simp) (by simp);have hf1:=hf.keep hkp (by simp);have hkn:∀e∈Vr s a PG.flatten,zB s.p.vars e=0/\Ji e:=fun e he=>by
  rcases qBb.1 he with he|he
  . exact hRk e he
  obtain⟨i,hi,rfl⟩:=qBj.1 he;obtain⟨v,l,hv,_⟩:=hpre.gr i hi;obtain⟨n,hna,hn16⟩:=hpre.val i hi;rw[show Ym s.p i=v.name by simp[Ym,hv],show aN a i=n by simp[aN,qA8,hna]];exact qgD hvq hvp hv (by omega) (by omega)
 have htr:=qmM hvq hvp hv20 hb hfx (m:=m) g (Vr s a PG.flatten) tok H1 T1 hg hkn (by rw[hrl];omega) htok hs1 hf1;simp[e0,e3,e9,e15,e82,e83];refine qFs htr ?_;rintro w ⟨H3,T3⟩ ⟨rfl,hk3⟩;simp;exact hkp.trans hk3
def qdt{s H}(hs:SpOk s H)(hw:∀v∈s.p.vars,0<=v.width/\v.width<=8)(hvl:s.p.vars.length<=1000){r a}(ha:AsR r a H)(T):
 qj prog GG 16 [.ptr s.S 0,r] ⟨H,T⟩ (fun v U'=>v=.bool (qL s.p.vars a)/\KpL [] H U'.H):=by
 refine qFo qg func16 rfl (by kernel_rfl) ?_;have hS:=hs.c;have hlen:=ha.len;simp only[spE,qA,qBl,qBk]at hS;obtain⟨res,hres⟩:∃res,res=qL s.p.vars a:=⟨_,rfl⟩;rw[<- hres];unfold qL at hres;by_cases hl:a.length=s.p.vars.length
 case neg=>
  have hl':¬(a.length:Int)=s.p.vars.length:=by omega
  have:res=false:=by rw[hres];simp[hl]
  subst this;simp[-YD,hlen,hS,show YD (Dof prog) ⟨H,T⟩ 22 (.sl 4 (s.p.vars.map qM) .none)=some (.int .i64 (s.p.vars.length:Nat)) by simp,hl'];exact qFV
 simp[-YD,hlen,hS,show ∀U,YD (Dof prog) U 22 (.sl 4 (s.p.vars.map qM) .none)=some (.int .i64 (s.p.vars.length:Nat)) from fun U=>by simp,show(a.length:Int)=s.p.vars.length by omega];refine qFF s.p.vars (fun d ev U=>ev 1=r/\ev 20=.sl 4 (s.p.vars.map qM) .none/\ev 21=.int .i64 s.p.vars.length/\ev 22=.int .i64 d.length/\KpL [] H U.H/\res=((s.p.vars.drop d.length).zip (a.drop d.length)).all zG) ?_ ?_ ?_
 . exact⟨by simp,by simp,by simp,by simp,qFV,by simpa using(by rw[hres];simp[hl])⟩
 . rintro d v rest ev ⟨H1,T1⟩ R hR hd hx hlt ⟨e1,e20,e21,e22,hkp,hr⟩;have hdw:=wr (n:=(d.length:Int)+1) (by omega) (by omega);have hlt':(d.length:Int)<s.p.vars.length:=(by omega);have hda:d.length<a.length:=(by omega);obtain⟨x,hax⟩:∃x,a[d.length]?=some x:=⟨_,qAW hda⟩;have hvd:s.p.vars.drop d.length=v::s.p.vars.drop (d.length+1):=by
    obtain⟨h1,h2⟩:=qAU.1 hx;rw[qA9 h1,h2]
   have had:a.drop d.length=x::a.drop (d.length+1):=by
    obtain⟨h1,h2⟩:=qAU.1 hax;rw[qA9 h1,h2]
   rw[hvd,had,qEx,qCm]at hr;have hwv:=hw v (qAV hx);have hs1:=wG hwv.1 (by omega);have hwn:¬v.width<0:=(by omega);have ha1:=ha.keep hkp (by simp);have hgo:∀ev' U',ev' 1=r->ev' 20=.sl 4 (s.p.vars.map qM) .none->ev' 21=.int .i64 s.p.vars.length->ev' 22=.int .i64 (d.length+1:Nat)->KpL [] H U'.H->zG (v,x)=true->R ev' U':=fun ev' U' b1 b2 b3 b4 b5 b6=>hR _ _ ⟨b1,b2,b3,by rw[b4,qAY,qBo],b5,by rw[hr,b6,qB7,qAY,qBo]⟩
   have hbad:zG (v,x)=false->res=false:=fun h=>by rw[hr,h];rfl
   unfold zG at hgo hbad;simp only at hgo hbad;rw[<- show((2^v.width.toNat:Nat):Int)=(2:Int)^v.width.toNat by simp]at hgo hbad;generalize 2^v.width.toNat=N at *;have hnext:∀u,KpL [] H (H1++u):=fun u=>hkp.trans qFX
   rcases ha1 with⟨tok,rfl⟩|⟨A,rfl,hA⟩
   case' inr=>
    have hdr:(zb a).drop d.length=.int .i64 x::(zb a).drop (d.length+1):=by
     obtain⟨h1,h2⟩:=qAU.1 (by rw[qa4,hax];rfl);rw[qA9 h1,h2]
    have hla:d.length+1<=a.length:=hda;have hdi:(d.length:Int)<a.length:=by omega
   all_goals
    by_cases hm:v.mode=0
    . by_cases hxv:x=v.value
      . subst hxv;by_cases hx0:v.value<0
        . have hb:=hbad (by simp;omega);subst hb
          first|simp[e1,e20,e21,e22,hlt',hx,qf hA,hdr,qR,hla,hdi,hm,hx0]|simp[e1,e20,e21,e22,hlt',hx,hax,hm,hx0]
          exact hnext _
        by_cases hxN:(N:Int)<=v.value
        . have hb:=hbad (by simp;omega);subst hb
          first|simp[e1,e20,e21,e22,hlt',hx,hwn,IntKind.bits,hs1,qf hA,hdr,qR,hla,hdi,hm,hx0,hxN]|simp[e1,e20,e21,e22,hlt',hx,hax,hwn,IntKind.bits,hs1,hm,hx0,hxN]
          exact hnext _
        have hg:=hgo
        first|simp[e1,e20,e21,e22,hlt',hx,hwn,IntKind.bits,hs1,hdw,qf hA,hdr,qR,hla,hdi,hm,hx0,hxN]|simp[e1,e20,e21,e22,hlt',hx,hax,hwn,IntKind.bits,hs1,hdw,hm,hx0,hxN]
        exact hgo _ _ (by simp[e1]) (by simp[e20]) (by simp[e21]) (by simp) (hnext _) (by simp[hm,hxN];omega)
      . have hb:=hbad (by simp[hm,hxv]);subst hb
        first|simp[e1,e20,e21,e22,hlt',hx,hwn,IntKind.bits,hs1,hdw,qf hA,hdr,qR,hla,hdi,hm,hxv]|simp[e1,e20,e21,e22,hlt',hx,hax,hwn,IntKind.bits,hs1,hdw,hm,hxv]
        exact hnext _
    by_cases hx0:x<0
    . have hb:=hbad (by simp;omega);subst hb
      first|simp[e1,e20,e21,e22,hlt',hx,qf hA,hdr,qR,hla,hdi,hm,hx0]|simp[e1,e20,e21,e22,hlt',hx,hax,hm,hx0]
      exact hnext _
    by_cases hxN:(N:Int)<=x
    . have hb:=hbad (by simp;omega);subst hb
      first|simp[e1,e20,e21,e22,hlt',hx,hwn,IntKind.bits,hs1,qf hA,hdr,qR,hla,hdi,hm,hx0,hxN]|simp[e1,e20,e21,e22,hlt',hx,hax,hwn,IntKind.bits,hs1,hm,hx0,hxN]
      exact hnext _
    have hg:=hgo
    first|simp[e1,e20,e21,e22,hlt',hx,hwn,IntKind.bits,hs1,hdw,qf hA,hdr,qR,hla,hdi,hm,hx0,hxN]|simp[e1,e20,e21,e22,hlt',hx,hax,hwn,IntKind.bits,hs1,hdw,hm,hx0,hxN]
    exact hgo _ _ (by simp[e1]) (by simp[e20]) (by simp[e21]) (by simp) (hnext _) (by simp[hm,hxN];omega)
 rintro ev ⟨H1,T1⟩ ⟨e1,e20,e21,e22,hkp,hr⟩;have:res=true:=by rw[hr,qBL];rfl
 subst this;simp[e21,e22];exact hkp
structure SpV(s:Spc)(d):Prop where
 vq:VQ s.p
 vp:qo s.p=0
 v20:s.p.vars.length<=20
 bits:wh s.p.vars (qQ s.p)<=18
 rk:∀e∈s.R,zB s.p.vars e=0/\Ji e
 rl:s.R.length<=50000
 rt:qtl s.R s.rtok
 lv:s.lv=qS s.p
 dag:s.small=true->DagOk d/\(∃tok,s.dv=.sl 3 (d.map qN) tok)/\s.root<d.length
 ws:∀(i:Nat) (w:List Weight),(jc s.p.vars.length s.p.dists)[i]?=some (some w)->w≠[]/\w.length<=1000
noncomputable def qbY(s:Spc)(d:List Nd)(fx:Nat->Option Nat)(a:List Int)(gi:Nat):Nat :=
 if s.small=true then qbq s.p s.lv d fx ((NG s.p).getD gi []) (ZS s d a ((NG s.p).take gi).flatten) else qd3 s.p fx ((NG s.p).getD gi []) (Vr s a ((NG s.p).take gi).flatten)
def qme{p:Problem}(h:qo p=0){i:Nat}(hi:i∈(NG p).flatten):∃(k:Nat),p.groups.flatten[k]?=some (i:Int):=by
 have:(i:Int)∈p.groups.flatten:=by rw[Zv h];exact qBj.2 ⟨i,hi,rfl⟩
 exact qBB this
def SpV.gr{s d}(h:SpV s d){l}(hl:∀i∈l,i∈(NG s.p).flatten):qtZ s l:=fun i hi=>by
 obtain⟨k,hk⟩:=qme h.vp (hl i hi);obtain⟨n,v,hn,hv,hm⟩:=ZK ((j5 h.vp).2.1 _ (qAV hk));have hn:n=i:=by omega
 subst hn;have hw:=zi (jd h.vp v (qAV hv));have hl:=KR h.vp hk;have h1:=Yw (QD h.vp) (s.p.groups.flatten.take k);have h2:=Vi (QD h.vp) s.p.groups.flatten k;have h3:=We h.vp;refine⟨v,(kx s.p.vars (s.p.groups.flatten.take k)).toNat,hv,by omega,by omega,?_,by omega,h.ws n⟩;rw[h.lv,hl];congr 1;omega
def qmf{p}(h:qo p=0):(NG p).flatten.length<=p.vars.length:=by
 have:=VO h
 rwa[Zv h,qBA]at this
def JS{p}(h:qo p=0)(hv:p.vars.length<=1000):(∀g∈NG p,g.length<=1000)/\(NG p).length<=1000:=by
 have h1:=qmf h;have h2:∀g∈NG p,g≠[]:=fun g hg=>by
  obtain⟨g',hg',rfl⟩:=qBj.1 hg;have:=(j5 h).1 g' hg';simpa using this
 have key:∀G:List (List Nat),(∀g∈G,g≠[])->(∀g∈G,g.length<=G.flatten.length)/\G.length<=G.flatten.length:=by
  intro G
  induction G with
  |nil=>intro _;simp
  | cons a r ih=>
   intro hG;obtain⟨i1,i2⟩:=ih fun g hg=>hG g (by simp[hg])
   have ha:=qBf.2 (hG a (by simp));refine⟨fun g hg=>?_,by rw[qBI,qAY,qBc];omega⟩;rcases qBt.1 hg with rfl|hg
   . simp
   have:=i1 g hg;rw[qBI,qAY];omega
 obtain⟨k1,k2⟩:=key (NG p) h2;exact⟨fun g hg=>by have:=k1 g hg;omega,by omega⟩
def AOk(p:Problem)(a:List Int):Prop:=∀i∈(NG p).flatten,∃n:Nat,a[i]?=some (n:Int)/\n<65536
def Zs{p}(h:qo p=0){a}(ha:qL p.vars a=true):AOk p a:=fun i hi=>by
 obtain⟨k,hk⟩:=qme h hi;obtain⟨n,v,hn,hv,hm⟩:=ZK ((j5 h).2.1 _ (qAV hk));have hn:n=i:=by omega
 subst hn;unfold qL at ha;simp only[qA1,decide_eq_true_eq]at ha;have hil:=(qAU.1 hv).1;obtain⟨x,hx⟩:∃x,a[n]?=some x:=⟨_,qAW (by omega)⟩;have hz:(v,x)∈p.vars.zip a:=qAV (i:=n) (qCA.2 ⟨hv,hx⟩);have h1:=qA3.1 ha.2 _ hz;unfold zG at h1;simp at h1;have hw:=zi (jd h v (qAV hv));have h2:(2:Nat)^v.width.toNat<=2^8:=qBn (by omega) (by omega);have h3:((2^v.width.toNat:Nat):Int)=(2:Int)^v.width.toNat:=by simp
 exact⟨x.toNat,by rw[hx];congr 1;omega,by omega⟩
def qpu{s d}(h:SpV s d){fx}(hfx:∀i x,fx i=some x->x<65536){m gi}(hgi:gi<(NG s.p).length){r a H}(hao:AOk s.p a)(hs:SpOk s H)(hf:qiL m fx H)(ha:AsR r a H)(T):
 qj prog GG 42 [.ptr s.S 0,.int .i64 gi,r,m] ⟨H,T⟩ (fun v U'=>v=.int .i64 (qbY s d fx a gi:Nat)/\KpL [] H U'.H):=by
 obtain⟨g,hg⟩:∃g,(NG s.p)[gi]?=some g:=⟨_,qAW hgi⟩;have hl:=JS h.vp h.vq.vars;have hgr:=h.gr fun i hi=>qBv.2 ⟨g,qAV hg,hi⟩
 have hsub:∀i∈((NG s.p).take gi).flatten,i∈(NG s.p).flatten:=fun i hi=>by
  obtain⟨g',hg',hi'⟩:=qBv.1 hi;exact qBv.2 ⟨g',qBH hg',hi'⟩
 have hpre:SpG s a ((NG s.p).take gi).flatten:=⟨h.gr hsub,fun i hi=>hao i (hsub i hi)⟩;unfold qbY;rw[show(NG s.p).getD gi []=g by simp[qA8,hg]];by_cases hsm:s.small=true
 . obtain⟨hd,⟨tok,hdv⟩,hr⟩:=h.dag hsm;rw[if_pos hsm];exact qq6 h.vp hsm hd hdv hr hfx hg hl.1 hl.2 hgr hpre hs hf ha T
 rw[if_neg hsm];exact qq5 h.vq h.vp h.v20 h.bits (by simpa using hsm) h.rk h.rl h.rt hfx hg hl.1 hl.2 (qBN (qmf h.vp) h.vq.vars) hgr hpre hs hf ha T
noncomputable def Vh(s:Spc)(d:List Nd)(gi:Int)(a:List Int):Int×Int :=
 if gi<0\/((NG s.p).length:Int)<=gi\/qL s.p.vars a=false then(0,1)
 else if qbY s d (fun _=>none) a gi.toNat=0 then(0,11) else if qbY s d (fun _=>none) a gi.toNat=lim then(0,3) else(qbY s d (fun _=>none) a gi.toNat,0)
def qd0{s d}(h:SpV s d)(gi){r a H}(hs:SpOk s H)(ha:AsR r a H)(T):
 qj prog GG 18 [.ptr s.S 0,.int .i64 gi,r] ⟨H,T⟩ (fun v U'=>v=.tup [.int .i64 (Vh s d gi a).1,.int .i64 (Vh s d gi a).2]/\KpL [] H U'.H):=by
 refine qFo qg func18 rfl (by kernel_rfl) ?_;have hS:=hs.c;have hG:=WL h.vp;have hw:∀v∈s.p.vars,0<=v.width/\v.width<=8:=fun v hv=>by have:=zi (jd h.vp v hv);omega
 have has:=qdt hs hw h.vq.vars ha T;simp only[spE,qA,qBl,qBk,hG]at hS;obtain⟨res,hres⟩:∃res,res=Vh s d gi a:=⟨_,rfl⟩;rw[<- hres];unfold Vh at hres;by_cases h0:gi<0
 . rw[if_pos (.inl h0)]at hres;subst hres;simp[h0,unA];exact qFV
 by_cases h1:((NG s.p).length:Int)<=gi
 . rw[if_pos (.inr (.inl h1))]at hres;subst hres;simp[*];exact qFV
 simp[h0,h1,hS];refine qFs has ?_;rintro v ⟨H1,T1⟩ ⟨rfl,hk1⟩
 cases hA:qL s.p.vars a with
 | false=>
  rw[if_pos (.inr (.inr hA))]at hres;subst hres;simp[unA];exact hk1
 | true=>
  rw[if_neg (by simp[h0,hA];omega)]at hres;obtain⟨g,rfl⟩:=qBe (by omega:0<=gi);have hsu:=qpu h (fx:=fun _=>none) (by simp) (m:=.nilm) (gi:=g) (by omega) (Zs h.vp hA) (hs.keep hk1 (by simp) (by simp) (by simp)) (.inl ⟨rfl,fun _=>rfl⟩) (ha.keep hk1 (by simp)) T1;rw[qBu]at hres;generalize qbY s d (fun _=>none) a g=n at *;simp[unA];refine qFs hsu ?_;rintro v ⟨H2,T2⟩ ⟨rfl,hk2⟩;have hkk:=hk1.trans hk2;by_cases hn0:n=0
  . rw[if_pos hn0]at hres;subst hres;simp[hn0];exact hkk
  rw[if_neg hn0]at hres;by_cases hnl:n=lim
  . rw[if_pos hnl]at hres;subst hres;have hnl':(n:Int)=1099511627777:=(by rw[hnl];rfl);simp[hnl'];exact hkk
  rw[if_neg hnl]at hres;subst hres;simp[hn0,show ¬(n:Int)=1099511627777 by unfold lim at hnl;omega];exact hkk
