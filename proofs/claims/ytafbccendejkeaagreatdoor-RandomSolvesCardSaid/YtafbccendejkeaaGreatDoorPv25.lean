/- The tied card of RandomSolves: the law's function returns true for every input, and each argument reads afterwards as it read before. No condition. -/
import Derived.Test.YtafbccendejkeaaGreatDoorPv24
import Derived.Test.YtafbccendejkeaaGreatDoorRows
import Derived.ProofKit
import Derived.Stop.Joined
import Derived.SevenTiedAt
import Derived.Test.YtafbccendejkeaaGreatDoorTie
import Derived.Test.YtafbccendejkeaaGreatDoorCards
set_option maxHeartbeats 16000000
set_option maxRecDepth 100000
set_option linter.all false
namespace Go.Proofs.YtafbccendejkeaaGreatDoor
open Go Go.Abs Proofs.Tryz Go.ChangeShapes Go.WideShapes Go.ChangeAt Go.RowKit
def qrB(x):Pure prog GG 157 [.int .u64 x] (.int .u64 (qvE x)):=by
 refine okzP func157 rfl rfl ?_;simp[IntKind.bits];rfl
def qrx(x k):Pure prog GG 104 [.int .u64 x,.int .u64 k] (.int .u64 (qvg x k)):=by
 refine okzP func104 rfl rfl ?_;simp;refine qFz (qrB _) rfl ?_;simp;rfl
def qne(r):Pure prog GG 59 [.agg (yB r)] (.tup [.int .u64 (Q7 r).1,.agg (yB (Q7 r).2)]):=by
 refine okzP func59 rfl rfl ?_;simp[yB];refine qFz (qrx _ _) rfl ?_;simp;exact⟨rfl,rfl,rfl⟩
def qta{n:Int}(h1:1<=n)(h2:n<=4611686018427387904):((18446744073709551615:Int).tmod n+1).tmod n=qoP n:=by
 unfold qoP;have hn0:n≠0:=by omega
 have m2:=qD1 (18446744073709551615:Int) hn0;have e1:(18446744073709551615:Int).tmod n=18446744073709551615%n:=qB4 (by omega);rw[show IntKind.u64.wrap (0-n)=18446744073709551616-n by rw[qqQ];omega,e1,show((18446744073709551615:Int)%n+1).tmod n=(18446744073709551615%n+1)%n from qB4 (by omega),show(18446744073709551616-n).tmod n=(18446744073709551616-n)%n from qB4 (by omega),Int.emod_add_emod,show(18446744073709551615:Int)+1=18446744073709551616-n+n by omega,Int.add_emod_right]
def qtl(n r):Pure prog GG 32 [.agg (yB r),.int .i64 n] (qiM (jR n r)):=by
 refine okzP func32 rfl rfl ?_;by_cases h1:n<1
 . have e:jR n r=(0,(0,0),1):=if_pos (.inl h1);rw[e];simp[h1,qiM,yB]
 by_cases h2:4611686018427387904<n
 . have e:jR n r=(0,(0,0),1):=if_pos (.inr h2);rw[e];simp[h1,h2,qiM,yB]
 have e:jR n r=((ya n r).1,(ya n r).2,0):=if_neg (fun h=>h.elim h1 h2);rw[e];have hn0:¬n=0:=by omega
 have hwn:=wru (n:=n) (by omega) (by omega);have hcut:=qta (n:=n) (by omega) (by omega);have hm1:(18446744073709551615:Int).tmod n=18446744073709551615%n:=qB4 (by omega);have hm2:=qD1 (18446744073709551615:Int) hn0;have hm3:=qEc (18446744073709551615:Int) (show 0<n by omega);have hwr:=wru (n:=(18446744073709551615:Int).tmod n+1) (by omega) (by omega);obtain⟨RES,hRES⟩:∃RES,RES=YC (qoP n) 64 0 r:=⟨_,rfl⟩;have hrange:=QW (qoP n) 64 0 r (by omega) (by omega);rw[<- hRES]at hrange;rw[show ya n r=(RES.1.tmod n,RES.2) by rw[hRES];rfl];generalize qoP n=cut at *;simp[h1,h2,yF,hwn,hn0,yB,hwr,hcut];refine qFE (fun m ev U=>∃(i:Nat) (v:Int) (rr:Rng) (u:List Blk),m=64-i/\i<=63/\ev 2=.ptr 0 0/\ev 5=.ptr 1 0/\ev 7=.int .u64 n/\ev 8=.int .u64 cut/\ev 9=.int .i64 i/\U=⟨[.cells (yB rr),.cells [.int .u64 0,.int .u64 0]]++u,[]⟩/\RES=YC cut (64-i) v rr) 64 ?_ ?_
 . exact⟨0,0,r,[],rfl,by omega,by simp,by simp,by simp,by simp,by simp,by simp[yB],hRES⟩
 rintro m ev U R hR ⟨i,v,rr,u,rfl,hi,e2,e5,e7,e8,e9,rfl,hr⟩;have hi64:(i:Int)<64:=by omega
 have hwi:=wr (n:=(i:Int)+1) (by omega) (by omega);obtain⟨k,hk⟩:∃k,64-i=k+1:=⟨63-i,by omega⟩;rw[hk]at hr;unfold YC at hr;have hnx:=qne rr;have hnr:0<=(Q7 rr).1/\(Q7 rr).1<18446744073709551616:=by
  unfold Q7 qvg qvE qiR;dsimp only;rw[qqQ];omega
 obtain⟨x,r',hx⟩:∃x r',Q7 rr=(x,r'):=⟨_,_,rfl⟩;rw[hx]at hr hnx hnr;simp only[yB]at hnx;have h3:x.tmod n=x%n:=qB4 hnr.1;have h4:=qD1 x hn0;have h5:=qEc x (by omega:0<n);have hwx:=wr (n:=x.tmod n) (by rw[h3];omega) (by rw[h3];omega);by_cases hstop:cut=0\/x<IntKind.u64.wrap (0-cut)\/i=63
 . have hres:RES=(x,r'):=by
    rcases hstop with h|h|h
    . rw[if_pos (.inl h)]at hr;exact hr
    . rw[if_pos (.inr h)]at hr;exact hr
    have:k=0:=by omega
    subst this;split at hr
    . exact hr
    exact hr
   rw[hres];dsimp only;simp[e2,e9,hi64,yB];refine qFz hnx rfl ?_;by_cases hc0:cut=0
   . simp[e2,e5,e7,e8,hc0,hn0,yF,hwx,qiM,yB]
   by_cases hlt:x<IntKind.u64.wrap (0-cut)
   . have hlt':x<IntKind.u64.wrap (-cut):=(by simpa using hlt);simp[e2,e5,e7,e8,hc0,hlt',unA,hn0,yF,hwx,qiM,yB]
   have hlt':¬x<IntKind.u64.wrap (-cut):=(by simpa using hlt);have h63:i=63:=by
    rcases hstop with h|h|h
    . exact absurd h hc0
    . exact absurd h hlt
    exact h
   subst h63;simp[e2,e5,e7,e8,e9,hc0,hlt',unA,hn0,yF,hwx,qiM,yB]
 have hc0:¬cut=0:=fun e=>hstop (.inl e)
 have hlt:¬x<IntKind.u64.wrap (0-cut):=fun e=>hstop (.inr (.inl e))
 rw[if_neg (fun h=>h.elim hc0 hlt)]at hr;simp[e2,e9,hi64,yB];refine qFz hnx rfl ?_;simp[e2,e7,e8,e9,hc0,show ¬x<IntKind.u64.wrap (-cut) by simpa using hlt,show ¬(i:Int)=63 by omega,unA,hwi];exact hR (64-(i+1)) _ _ (by omega) ⟨i+1,x,r',u++[.cells [.int .u64 r'.1,.int .u64 r'.2]],rfl,by omega,by simp[e2],by simp[e5],by simp[e7],by simp[e8],by simp,by simp[yB],by rw[show 64-(i+1)=k by omega];exact hr⟩
def qoz{p}(hr:RnH p)(hv:qg p=0)(hb:kw p.vars (qJ p)<=10):(NG p).flatten.length<=12:=qhC hr hv hb
def qm8(p)(h:RfH p)(hvp:VP p)(hr:RnH p)(r):Pure prog GG 16 [.agg (qu p),.agg (yB r)] (qtK (jA p r)):=by
 refine okzP func16 rfl rfl ?_;have hru:=qfT p h;simp only[qu]at hru;by_cases h0:(qm p).2=0
 case neg=>
  have hs:jA p r=([],(0,0),(qm p).2):=if_pos h0;rw[hs];simp[yB];refine qFz (G:=zh GG) hru (by simp) ?_;simp[h0,qtK,yB]
  try simp[Leq,zm]
 obtain⟨hv,_,_,_⟩:=yz h0;have hfi:=qk8 p h.vq.vars;rw[show p.vars.map Var.value=qO p.vars from Zi hv]at hfi;rw[h0]at hru;simp only[qu]at hfi;have hvl:=h.vq.vars;have hgl:p.groups.length=(NG p).length:=by simp[NG]
 have hgn:=(QF hv hvl).2;have hgn':(p.groups.length:Int)=(NG p).length:=by omega
 obtain⟨RES,hRES⟩:∃RES,RES=jA p r:=⟨_,rfl⟩;rw[<- hRES];rw[show jA p r=qbH p (List.range (NG p).length) (qO p.vars) r from if_neg (fun e=>e h0),qCd]at hRES;generalize (qm p).1=L at hru;simp[yB];refine qFz (G:=zh GG) hru (by simp) ?_;simp;refine qFz (G:=zh GG) hfi (by simp) ?_;simp;refine yU (NG p).length (fun k ev U=>∃(a:List Int) (rr:Rng) (u:List Blk),ev 2=.ptr 0 0/\ev 3=.ptr 1 0/\ev 5=.ptr 2 0/\ev 9=.sl 1 (a.map qh) .none/\ev 10=.int .i64 k/\U=⟨[.cells (qu p),.cells (yB rr),.cells [.int .u64 0,.int .u64 0]]++u,[]⟩/\a.length=p.vars.length/\RES=qbH p (List.range' k ((NG p).length-k)) a rr) ?_ ?_ ?_
 . exact⟨qO p.vars,r,[],by simp,by simp,by simp,by simp,by simp,by simp[qu,yB],kW _,by rw[hRES,qDM]⟩
 . rintro k ev U R hR hkn ⟨a,rr,u,e2,e3,e5,e9,e10,rfl,hal,hres⟩;have hkn':(k:Int)<(NG p).length:=(by omega);have hwk:=wr (n:=(k:Int)+1) (by omega) (by omega);have haf:Fits a:=(by unfold Fits;omega);have hrg:List.range' k ((NG p).length-k)=k::List.range' (k+1) ((NG p).length-(k+1)):=by
    obtain⟨m,hm⟩:∃m,(NG p).length-k=m+1:=⟨(NG p).length-k-1,by omega⟩;rw[hm,qCx,show(NG p).length-(k+1)=m by omega]
   rw[hrg]at hres;unfold qbH at hres;have ht:=qra p h hvp hr k a haf;have hto:jX p k a=kF p k a:=(by unfold jX;rw[if_neg (fun e=>e h0)]);have hpt:=VE p k a;rw[hpt,hto]at ht;have hok:=YJ (p:=p) (gi:=(k:Int)) (a:=a);have hcs:=fun idx=>qo0 p h hvp hr k a haf idx
   have hcO:∀idx:Int,vK p k a idx=if(kF p k a).2≠0 then([],(kF p k a).2) else if idx<0\/(kF p k a).1<=idx then([],12) else(z9 p k a idx,0):=fun idx=>by
    rw[qlC];unfold wQ;rw[hto,qBF]
   have hclen:∀idx,(z9 p k a idx).length=a.length:=fun idx=>wm _ _ _ _
   simp only[qu]at ht hcs;generalize kF p (k:Int) a=tt at *;obtain⟨t,e⟩:=tt;by_cases he:e=0
   case neg=>
    rw[if_pos he]at hres;simp[e2,e9,e10,hgn',hkn',qu];refine qFz (G:=zh GG) ht (by simp) ?_;simp[e3,e5,he,hres,qtK,yB]
    try simp[Leq,zm]
   subst he;rw[if_neg (fun e=>e rfl)]at hres;obtain⟨_,_,_,n1,n2⟩:=hok rfl;unfold lim at n2;have hbr:=wM (n:=t) (by omega) rr;have hbw:=qtl t rr;rw[show jR t rr=((ya t rr).1,(ya t rr).2,0) from if_neg (by omega)]at hbw hres;rw[if_neg (fun e=>e rfl)]at hres;have hc1:=hcs (ya t rr).1;rw[hcO,if_neg (fun e=>e rfl),if_neg (by omega)]at hc1;have hcl:=hclen (ya t rr).1;unfold qiM at hbw;generalize (ya t rr).1=idx at *;generalize (ya t rr).2=r2 at *;generalize z9 p k a idx=b at *;simp only[yB]at hbw;simp[e2,e9,e10,hgn',hkn',qu,yB];refine qFz (G:=zh GG) ht (by simp) ?_;simp[e3,e10];refine qFz hbw rfl ?_;simp[e2,e3,e9,e10];refine qFz (G:=zh GG) hc1 (by simp) ?_;simp[e10,hwk];exact hR _ _ ⟨b,r2,u++[.cells [.int .u64 r2.1,.int .u64 r2.2]],by simp[e2],by simp[e3],by simp[e5],by simp,by simp,by simp[qu,yB],by omega,hres⟩
 rintro ev U ⟨a,rr,u,e2,e3,e5,e9,e10,rfl,hal,hres⟩;have:RES=(a,rr,0):=by rw[hres,qB9];rfl
 subst this;simp[e2,e3,e5,e9,e10,hgn',qtK,qu,yB]
def qvV(a b c d):WD (Dof prog) 42 [.int .u64 a,.int .u64 b] [.int .u64 c,.int .u64 d]=some ((a==c)&&(b==d)):=by
 simp[WD,YA,kl,qR,zW,qCt,je,kx]
def qjx{p r}:(jA p r).1.length<=p.vars.length:=by
 by_cases h:(jA p r).2.2=0
 . obtain⟨_,_,hs⟩:=qjv h;exact Nat.le_of_eq (yV.1 hs.all).len
 rw[qjw h];simp
def qmY(p r)(h:VM p):Pure prog GG 4 [.agg (qu p),.agg (yB r)] (.bool true):=by
 refine okzP func4 rfl rfl ?_;have hs:=qzc p h 10;simp only[qu]at hs;simp[yB];refine qFz hs (by simp) ?_
 cases hso:qoA p 10 with
 | false=>
  simp[unA];refine qFz qiU rfl ?_;simp
 | true=>
  obtain⟨hr,hvp⟩:=qla h (by decide) hso;have hrf:=qsV h (by decide) hso;have hb:kw p.vars (qJ p)<=10:=by
   unfold qoA at hso;simp only[qBf,decide_eq_true_eq]at hso;exact hso.2
  have hl12:=fun hv=>qoz hr hv hb
  have s1:=qty p hr.q hr.v20 hl12 hr.bits hr.dl hr.sl hr.wl r;have s2:=qm8 p hrf hvp hr r;have hsame:=qhI (jA p r).1 (jA p r).1 (by unfold Fits;have:=qjx (p:=p) (r:=r);have:=hr.q.vars;omega);rw[decide_eq_true rfl]at hsame;unfold qtK at s1 s2;generalize jA p r=q at *;obtain⟨a,r',e⟩:=q;simp only[qu,yB]at s1 s2;simp[unA];refine qFz s1 (by simp) ?_;simp;refine qFz (G:=zh GG) s2 (by simp) ?_;simp;refine qFz (G:=zh GG) hsame (by simp) ?_;simp[qvV];refine qFz qiU rfl ?_;simp
def qmU{H:Type}{enc:TypeId×Value->H}{W W':World}{v:Value}{d:DataW H}{ps:List MemPlace}{sp:Nat->Bool}(h:DataW.Trod enc prog W 0 (fun _=>true) true 27 v d ps)(hb:Go.RowKit.Below W.heap.size W W')(hlt:∀x∈ps,x.block<W.heap.size)(hs:∀p∈ps,sp p.block=true):
 DataW.Trod enc prog W' 0 sp true 27 v d ps :=
 WideElems.Trod_stays Wc (by kernel_rfl) (of_decide_eq_true (by kernel_rfl)) h (fun x hx=>hb.same (hlt x hx)) hs
def qmT{H:Type}{enc:TypeId×Value->H}{W W':World}{v:Value}{d:DataW H}{ps:List MemPlace}{sp:Nat->Bool}(h:DataW.Trod enc prog W 0 (fun _=>true) true 42 v d ps)(hb:Go.RowKit.Below W.heap.size W W')(hlt:∀x∈ps,x.block<W.heap.size)(hs:∀p∈ps,sp p.block=true):
 DataW.Trod enc prog W' 0 sp true 42 v d ps :=
 WideElems.Trod_stays Wc (by kernel_rfl) (of_decide_eq_true (by kernel_rfl)) h (fun x hx=>hb.same (hlt x hx)) hs
def qsl(os:Os)(started:os.Started)(H:Type)(enc:TypeId×Value->H):
 ReturnsInHanded {} Tryz.checked os 4 .any (fun w args=>(Rows.randomSolvesSpec.pre enc prog Tryz.f4 [] false w args/\laidMetH prog qid w)/\sizedMet enc prog Tryz.f4 (OpenSpec.ofChange Rows.randomSolvesSpec) false w args)
  (Rows.randomSolvesSpec.post enc prog Tryz.f4 false true false false):=by
 refine returnsInHanded_of_change_and (C:=Tryz.checked) (X:=fun w _=>laidMetH prog qid w) (fun _ _ _ hh h=>h.of_heap hh) qrU started (by kernel_rfl) func4
  (ChangeSpec.witness_shaped (enc:=enc) (C:=Tryz.checked) (os:=os) (X:=fun w _=>laidMetH prog qid w) false (World.doorLaid prog 400 os) #[.agg #[.slice none 0 0,.slice none 0 0,.slice none 0 0,.slice none 0 0,.slice none 0 0],.agg #[.int .u64 0,.int .u64 0]] 8 rfl (World.shaped_of_RefB (by kernel_rfl) (by kernel_rfl)) (by kernel_rfl) (by kernel_rfl) (by kernel_rfl) (qoK os _)) ?_
 intro W base args ds gs before hval0 hW _ hWt hL _;have hval:∀(j:Nat) t v,Tryz.f4.params[j]?=some t->args[j]?=some v->Value.okWide prog W .any base t v:=hval0;have hwt:(DataW.weightsEach prog (Tryz.f4.params.toList++Rows.randomSolvesSpec.plain.varTypes prog) (ds++gs)).all (·<=reachBytes)=true:=hWt;have hW':=hW;obtain⟨p,q,hA0,hV,rfl,hfz,hnd⟩:=hW;have hA:DataW.TrodAll enc prog W 0 (fun _=>true) true Tryz.f4.params.toList args.toList ds p:=hA0;rw[Tryz.params4]at hA hval hwt;obtain⟨v0,v1,d0,d1,p0,p1,rfl,rfl,rfl,h0,h1⟩:=trodAll_two hA;obtain⟨rfl,rfl⟩:=trodVars_none hV;have hv0:=hval 0 27 v0 rfl rfl;unfold Value.okWide at hv0;rw[underlying27]at hv0;obtain⟨cs0,rfl,_,_⟩:=hv0;have h0':=h0;obtain⟨fuel0,hf0⟩:=h0;have hw0:∀k∈d0.weights prog 27,k<=reachBytes:=fun k hk=>of_decide_eq_true (qBk.1 hwt k (DataW.weights_mem_each (j:=0) (t:=27) rfl rfl k hk))
 obtain⟨x0,hrel0,hg0⟩:=rdP hf0 hw0;have hv1:=hval 1 42 v1 rfl rfl;unfold Value.okWide at hv1;rw[underlying42]at hv1;obtain⟨cs1,rfl,_,_⟩:=hv1;have h1':=h1;obtain⟨fuel1,hf1⟩:=h1;obtain⟨x1,hrel1,hg1⟩:=rdR hf1;have hpure:=qmY x0 x1 hg0;have hargs:qi (KMw W) [.agg (qu x0),.agg (yB x1)] (#[Value.agg cs0,Value.agg cs1]:Array Value).toList:=by
  simp only[qi];have g0:qf (KMw W) (.agg (qu x0)) (Value.agg cs0):=by
   unfold qf;exact⟨cs0,rfl,hrel0⟩
  have g1:qf (KMw W) (.agg (yB x1)) (Value.agg cs1):=by
   unfold qf;exact⟨cs1,rfl,hrel1⟩
  exact⟨_,_,rfl,g0,_,_,rfl,g1,rfl⟩
 refine(hpure.2 W (qhL W) #[Value.agg cs0,Value.agg cs1] (qkU hL) (fun _ _ _ e=>e) hargs).mono ?_;rintro e W' ⟨v,ro',rfl,hb,_,_,_,hv⟩;have hv1:v=.bool true:=by simpa only[qf] using hv
 subst hv1;have hW2:=hW';simp only[qBU]at hW2;have hlt:=fun x hx=>hW2.lt x hx
 refine⟨_,rfl,[d0,d1],[],p0++p1,[],p0++p1,[],hW2,?_,?_,?_,hb.frame _,fun h=>by cases h⟩
 . exact trodAll_mk1 (shut_bool underlying4 true)
 . exact trodAll_mk2 (qmU h0' hb (fun x hx=>hlt x (qB1 _ hx)) (fun x hx=>by simpa using hlt x (qB1 _ hx))) (qmT h1' hb (fun x hx=>hlt x (qCE _ hx)) (fun x hx=>by simpa using hlt x (qCE _ hx)))
 rfl
def fn4:prog.funcNamed "testbench/testbenchlaw23.RandomSolves" = some 4:=by kernel_rfl
def qyY:Tryz.f4.isInstance prog Rows.randomSolvesRow.origin Rows.randomSolvesRow.targs:=of_decide_eq_true (by kernel_rfl)
def qxU:Tryz.f4.isWrapper prog Rows.randomSolvesRow.wrapper Rows.randomSolvesRow.mainSum:=by unfold Func.isWrapper;first|(rw[if_pos (by decide +kernel)];kernel_rfl)|(rw[if_neg (by decide +kernel)];exact⟨rfl,rfl⟩)
def Vb:(Rows.randomSolvesRow.inPlace==prog.inPlace 4)=true:=by kernel_rfl
def JQ:(Rows.randomSolvesRow.unfollowed==prog.unfollowed 4)=true:=by kernel_rfl
def Wx:(Rows.randomSolvesRow.recurses==prog.recurses 4)=true:=by kernel_rfl
def qdl:(Rows.randomSolvesRow.named==prog.varsNamed 4)=true:=by kernel_rfl
def qeY:(Rows.randomSolvesRow.wf (OpenSpec.ofChange Rows.randomSolvesSpec)&&laidOutB prog&&mapsRowed prog &&
 Tryz.f4.params.all (prog.readableRec ·)&&namedTie prog Rows.randomSolvesRow.named Rows.randomSolvesSpec.vars &&
 (Rows.randomSolvesRow.stops == [])&&(prog.stops == [])&&(Rows.randomSolvesRow.knobs == [])&&(prog.stopKnobs == []))=true:=by kernel_rfl
def qeX:((Rows.randomSolvesRow.maps==(Tryz.f4.params.toList++Rows.randomSolvesSpec.plain.varTypes prog).any (prog.mapsRec ·))&&(Rows.randomSolvesRow.ifaces==(Tryz.f4.params.toList++Rows.randomSolvesSpec.plain.varTypes prog).any (prog.ifacesRec ·))&&(Rows.randomSolvesRow.mapsOut==prog.mapsAmong Tryz.f4.resultTypes.toList) &&
 (Rows.randomSolvesRow.loops==(Tryz.f4.params.toList++Rows.randomSolvesSpec.plain.varTypes prog).any (prog.loopsFrom ·))&&(Rows.randomSolvesRow.wideKeys==(Tryz.f4.params.toList++Rows.randomSolvesSpec.plain.varTypes prog++Tryz.f4.resultTypes.toList).any (prog.wideKeysFrom ·)) &&
 Rows.randomSolvesSpec.vars.all (prog.varReadable ·)&&Tryz.f4.resultTypes.all (fun t=>prog.readableRec t&&decide (t<prog.types.size))&&(Rows.randomSolvesRow.ifacesOut==Tryz.f4.resultTypes.toList.any (prog.ifacesRec ·))&&(Rows.randomSolvesRow.loopsOut==Tryz.f4.resultTypes.toList.any (prog.loopsFrom ·))&&(Rows.randomSolvesRow.plainKeys==prog.plainKeys)&&Rows.randomSolvesRow.shortTexts.isNone&&prog.stopsHeard&&prog.mayEnter&&(Rows.randomSolvesRow.lifted==prog.liftsFinal)&&(prog.make==some Rows.randomSolvesRow.make))=true:=by kernel_rfl
def qin:((Rows.randomSolvesRow.kinds==(if Rows.randomSolvesRow.domain.isEmpty then [] else Tryz.f4.params.toList.map fun t=>match prog.underlying t with|some (.int k)=>some k|_=>none))&&(Rows.randomSolvesRow.pinned==Rows.randomSolvesRow.pinnedBy) &&
 (Rows.randomSolvesRow.veiled==(Tryz.f4.params.toList++Rows.randomSolvesSpec.plain.varTypes prog++Tryz.f4.resultTypes.toList).any (prog.veiledRec ·))&&Rows.randomSolvesRow.veiledFits prog Tryz.f4.params.toList (Tryz.f4.params.toList++Rows.randomSolvesSpec.plain.varTypes prog++Tryz.f4.resultTypes.toList))=true:=by kernel_rfl
def qvT:joinedFacts prog 4 Tryz.f4 Rows.randomSolvesSpec Rows.randomSolvesRow=true:=by
 have h1:=qeY;have h2:=qeX;have h3:=qin;simp only[Bool.and_eq_true,and_assoc]at h1 h2 h3;unfold joinedFacts;simp only[Bool.and_eq_true,and_assoc];obtain⟨a1,a2,a3,a4,a5,a6,a7,a8,a9⟩:=h1;obtain⟨b1,b2,b3,b4,b5,b6,b7,b8,b9,b10,b11,b12,b13,b14,b15⟩:=h2;obtain⟨c1,c2,c3,c4⟩:=h3;exact⟨a1,a2,a3,a4,a5,a6,a7,a8,a9,Vb,JQ,Wx,qdl,b1,b2,b3,b4,b5,b6,b7,b8,b9,b10,b11,b12,b13,b14,b15,c1,c2,c3,c4⟩
def Yx:Rows.RandomSolvesSaid :=
 OpenClaim.holds_of_wide 4 Tryz.f4 rfl rfl rfl rfl rfl rfl rfl ⟨rfl,rfl,rfl,rfl,rfl⟩ rfl rfl rfl rfl rfl fn4 Tryz.func4 qvT qyY qxU
  (fun os started H enc _=>qsl os started H enc)
def qiy:Rows.randomSolvesRow.wfByText (OpenSpec.ofChange Rows.randomSolvesSpec)=true:=by kernel_rfl
def qiz:prog.mainIs=some (true, "f3407564bf5ab793c2a93715e9e16850448aa3b866e686021be58b13e0fb91f9".toList):=by kernel_rfl
def qe9:true=prog.looks []:=by kernel_rfl
def qdx:([27,42].all fun u=>!prog.wantsStandIn u)=true:=by kernel_rfl
def qiA:false=Rows.randomSolvesRow.goesBy Tryz.prog:=by kernel_rfl
theorem randomSolves_card:Rows.RandomSolvesCardSaid :=
 Claim7.holds_tied_plain_at .later [] [.data, .data, .data, .widerDeep] true (true, "f3407564bf5ab793c2a93715e9e16850448aa3b866e686021be58b13e0fb91f9") true
  Yx (fun _ h=>by cases h) qiy (fun _ h=>by cases h) randomSolves_row_tie rfl ⟨rfl,rfl⟩ qiz rfl
  (fun f fn hf hfn=>by
    obtain rfl:f=4:=Option.some.inj (fn4.symm.trans hf) |>.symm;obtain rfl:fn=Tryz.f4:=(Option.some.inj (func4.symm.trans hfn)).symm;exact⟨qe9,fun j t ht=>by
     rw[Tryz.params4]at ht;have hm:t∈[27,42]:=(by simpa using Array.mem_of_getElem? ht);exact(show prog.wantsStandIn t=false by simpa using List.all_eq_true.1 qdx t hm)⟩)
  qiA
#print axioms randomSolves_card
