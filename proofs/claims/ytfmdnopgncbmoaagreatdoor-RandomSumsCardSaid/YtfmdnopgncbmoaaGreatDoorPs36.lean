import Derived.Test.YtfmdnopgncbmoaaGreatDoorPs35
set_option maxHeartbeats 16000000
set_option maxRecDepth 100000
set_option linter.all false
set_option linter.defProp false
namespace Go.Proofs.YtfmdnopgncbmoaaGreatDoor
open Go Go.Abs Proofs.Tryz Go.RowKit
noncomputable def qud(s:Spc):Nat:=(jF s.p.vars).countP (okE s)
def SpOk.lt{s H}(h:SpOk s H):s.S<H.length/\s.L<H.length/\s.LL<H.length:=by
 refine⟨(qyF.1 h.c).1,?_,h.b⟩;obtain⟨c,hc,_⟩:=h.w;exact(qyF.1 hc).1
def KpL.fresh{H H1 H2 bs}(h:KpL [] H H1)(h2:KpL bs H1 H2)(hB:∀b∈bs,H.length<=b):KpL [] H H2:=⟨qzs h.1 h2.1,fun k x hk _=>h2.2 k x (h.2 k x hk (by simp)) (fun hb=>by have:=(qyF.1 hk).1;have:=hB k hb;omega)⟩
def qte{s}(hq:VQ s.p)(hv:∀v∈s.p.vars,0<=v.width/\v.width<=20)(hRl:s.R.length<=50000)(hx:∀e∈s.R,Wen e/\hgt e<=1000/\(pre e).length<=100000)(hn:(jF s.p.vars).length<=2^24){H}(hs:SpOk s H)(T):
 qf prog GG 20 [.ptr s.S 0] ⟨H,T⟩ (fun r U'=>r=.int .i64 (qud s:Nat)/\KpL [] H U'.H):=by
 refine qCN qe func20 rfl (by kernel_rfl) ?_;have hl:=hq.vars;obtain⟨g1,g2,g3⟩:=hs.lt;have hS:=hs.c;simp only[spE,qA,qy3,qy2]at hS;have kS:=qa hS;have hcn:qeR (okE s) s.p.vars []=qud s:=by unfold qeR qud;simp
 by_cases h0:s.p.vars=[]
 . have lk:∀(a b c d:Blk),(H++[a,b,c,d])[H.length]?=some a/\(H++[a,b,c,d])[H.length+1]?=some b/\(H++[a,b,c,d])[H.length+2]?=some c/\(H++[a,b,c,d])[H.length+3]?=some d:=by
    intros
    refine⟨?_,?_,?_,?_⟩<;>simp[]
   obtain⟨a0,a1,a2,a3⟩:=lk (.cells [.ptr s.S 0]) (.cells [.sl 1 [] (.chain T.length 0)]) (.cells [.int .i64 0]) (.cells [.fn 44 [] [.ptr (H.length+1) 0,.ptr H.length 0,.ptr (H.length+2) 0,.ptr (H.length+3) 0]]);have ok:EnOk ⟨H.length+1,H.length,H.length+2,H.length+3,H.length+100⟩ s (.sl 1 [] (.chain T.length 0)) [] 0 (H++[.cells [.ptr s.S 0],.cells [.sl 1 [] (.chain T.length 0)],.cells [.int .i64 0],.cells [.fn 44 [] [.ptr (H.length+1) 0,.ptr H.length 0,.ptr (H.length+2) 0,.ptr (H.length+3) 0]]]) :=
    ⟨hs.keep qDj (bs:=[]) (by simp) (by simp) (by simp),a1,a0,a2,a3,.inl ⟨rfl,1,_,rfl⟩,by dsimp only;omega,by simp;omega⟩
   have he:=qi4 hq hv hRl hx _ s.p.vars.length 0 [] 0 (by omega) (by rw[h0];rfl) (by simpa using hn) _ (T++[some 0]) ok;simp[kS,h0,qz];refine qCQ he ?_;rintro r ⟨H1,T1⟩ ⟨hk1,a',l1,l2,ok2⟩;have bN:=ok2.fn;simp only[qzX,List.take_nil,hcn,qz9]at bN;simp[bN];exact KpL.fresh qDj hk1 (by simp)
 have hpos:=qyZ.2 h0;have hne:¬(s.p.vars.length:Int)=0:=by omega
 have lk:∀(a b c d e:Blk),(H++[a,b,c,d,e])[H.length]?=some a/\(H++[a,b,c,d,e])[H.length+1]?=some b/\(H++[a,b,c,d,e])[H.length+2]?=some c/\(H++[a,b,c,d,e])[H.length+3]?=some d/\(H++[a,b,c,d,e])[H.length+4]?=some e:=by
  intros
  refine⟨?_,?_,?_,?_,?_⟩<;>simp[]
 obtain⟨a0,a1,a2,a3,a4⟩:=lk (.cells [.ptr s.S 0]) (.cells (List.replicate s.p.vars.length (.int .i64 0))) (.cells [.ms (H.length+1) 0 s.p.vars.length 1]) (.cells [.int .i64 0]) (.cells [.fn 44 [] [.ptr (H.length+2) 0,.ptr H.length 0,.ptr (H.length+3) 0,.ptr (H.length+4) 0]]);have ok:EnOk ⟨H.length+2,H.length,H.length+3,H.length+4,H.length+1⟩ s (.ms (H.length+1) 0 s.p.vars.length 1) (List.replicate s.p.vars.length 0) 0 (H++[.cells [.ptr s.S 0],.cells (List.replicate s.p.vars.length (.int .i64 0)),.cells [.ms (H.length+1) 0 s.p.vars.length 1],.cells [.int .i64 0],.cells [.fn 44 [] [.ptr (H.length+2) 0,.ptr H.length 0,.ptr (H.length+3) 0,.ptr (H.length+4) 0]]]) :=
  ⟨hs.keep qDj (bs:=[]) (by simp) (by simp) (by simp),a2,a0,a3,a4,.inr ⟨by simpa using h0,by simp,by rw[show ∀n,zw (List.replicate n 0)=List.replicate n (.int .i64 0) from fun n=>by simp[zw]];exact a1⟩,by dsimp only;omega,by simp;omega⟩
 have he:=qi4 hq hv hRl hx _ s.p.vars.length 0 (List.replicate s.p.vars.length 0) 0 (by omega) (by simp) (by simpa using hn) _ T ok;simp[kS,h0,qz,show(s.p.vars.length:Int)<=549755813888 by omega];refine qCQ he ?_;rintro r ⟨H1,T1⟩ ⟨hk1,a',l1,l2,ok2⟩;have bN:=ok2.fn;simp only[qzX,qCy,hcn,qz9]at bN;simp[bN];exact KpL.fresh qDj hk1 (by simp)
end Go.Proofs.YtfmdnopgncbmoaaGreatDoor
namespace Go.Abs
def qkd(b:Nat->Bool)(L:Nat)(v:Bool):Nat->Bool:=fun l=>if l=L then v else b l
def JU{d}(h:DagOk d){i L}(hi:i<d.length)(hL:L<lvD d i)(b v):evD d (qkd b L v) i=evD d b i :=
 Y8 h hi fun l hl=>if_neg (by omega)
def WA{d}(h:DagOk d){i n}(h2:2<=i)(hn:d[i]?=some n)(b):evD d (qkd b n.1 false) i=evD d b n.2.1:=by
 obtain⟨g1,g2,g3,g4,g5,g6⟩:=h.node i n h2 hn;have hi:=(List.getElem?_eq_some_iff.1 hn).1;rw[Qb h _ h2 hn];have:qkd b n.1 false n.1=false:=by simp[qkd]
 rw[this];exact JU h (by omega) g5 b false
def WB{d}(h:DagOk d){i n}(h2:2<=i)(hn:d[i]?=some n)(b):evD d (qkd b n.1 true) i=evD d b n.2.2:=by
 obtain⟨g1,g2,g3,g4,g5,g6⟩:=h.node i n h2 hn;have hi:=(List.getElem?_eq_some_iff.1 hn).1;rw[Qb h _ h2 hn];have:qkd b n.1 true n.1=true:=by simp[qkd]
 rw[this];exact JU h (by omega) g6 b true
def qjh{d}(h:DagOk d):∀(m i j),i<=m->j<=m->i<d.length->j<d.length->(∀b,evD d b i=evD d b j)->i=j:=by
 intro m
 induction m with
 |zero=>intro i j hm hm' _ _ _;omega
 | succ m ih=>
  intro i j hm hm' hi hj he
  -- a node above another one
  have above:∀(i j:Nat),i<=m+1->j<=m+1->i<d.length->j<d.length->(∀b,evD d b i=evD d b j)->lvD d i<lvD d j->False:=by
   intro i j hm hm' hi hj he hl;have h2:2<=i:=by
    apply Classical.byContradiction;intro hc;have:i=0\/i=1:=by omega
    have h1:=qej h j;rcases this with rfl|rfl
    . rw[qfZ h]at hl;omega
    rw[qfY h]at hl;omega
   obtain⟨n,hn⟩:∃n,d[i]?=some n:=⟨_,List.getElem?_eq_getElem hi⟩;obtain⟨g1,g2,g3,g4,g5,g6⟩:=h.node i n h2 hn;rw[zL hn]at hl;refine g4 (ih _ _ (by omega) (by omega) (by omega) (by omega) fun b=>?_);rw[<- WA h h2 hn b,<- WB h h2 hn b,he,he,JU h hj hl,JU h hj hl]
  by_cases h1:lvD d i<lvD d j
  . exact(above i j hm hm' hi hj he h1).elim
  by_cases h2:lvD d j<lvD d i
  . exact(above j i hm' hm hj hi (fun b=>(he b).symm) h2).elim
  have hll:lvD d i=lvD d j:=by omega
  by_cases hi2:2<=i
  . have hl20:=qie h hi2 hi;have hj2:2<=j:=by
     apply Classical.byContradiction;intro hc;have:j=0\/j=1:=by omega
     rcases this with rfl|rfl
     . rw[qfZ h]at hll;omega
     rw[qfY h]at hll;omega
    obtain⟨n,hn⟩:∃n,d[i]?=some n:=⟨_,List.getElem?_eq_getElem hi⟩;obtain⟨k,hk⟩:∃k,d[j]?=some k:=⟨_,List.getElem?_eq_getElem hj⟩;obtain⟨g1,g2,g3,g4,g5,g6⟩:=h.node i n hi2 hn;obtain⟨k1,k2,k3,k4,k5,k6⟩:=h.node j k hj2 hk;rw[zL hn,zL hk]at hll;have e1:n.2.1=k.2.1:=ih _ _ (by omega) (by omega) (by omega) (by omega) fun b=>by
     rw[<- WA h hi2 hn b,<- WA h hj2 hk b,he,hll]
    have e2:n.2.2=k.2.2:=ih _ _ (by omega) (by omega) (by omega) (by omega) fun b=>by
     rw[<- WB h hi2 hn b,<- WB h hj2 hk b,he,hll]
    have e:=Prod.ext hll (Prod.ext e1 e2);subst e;exact(List.getElem?_inj hi h.nodup).1 (hn.trans hk.symm)
  by_cases hj2:2<=j
  . have hl20:=qie h hj2 hj;have:i=0\/i=1:=by omega
    rcases this with rfl|rfl
    . rw[qfZ h]at hll;omega
    rw[qfY h]at hll;omega
  have e:=he fun _=>false
  rw[ZO h _ (by omega),ZO h _ (by omega)]at e;have a:i=0\/i=1:=by omega
  have b:j=0\/j=1:=by omega
  rcases a with rfl|rfl<;>rcases b with rfl|rfl<;>simp_all
def KG(d:List Nd)(e0 e1:Int)(comb:Nd->Int->Int->Int):Nat->Nat->Int
 |0,k=>if k=0 then e0 else e1
 | m+1,k=>if k=0 then e0 else if k=1 then e1 else match d[k]? with
  |some n=>comb n (KG d e0 e1 comb m n.2.1) (KG d e0 e1 comb m n.2.2)
  |none=>0
def Vt(d:List Nd)(e0 e1:Int)(comb:Nd->Int->Int->Int)(k:Nat):Int:=KG d e0 e1 comb (k+1) k
def JQ{d}(h:DagOk d){e0 e1 comb}:∀(m m' k),k<m->k<m'->KG d e0 e1 comb m k=KG d e0 e1 comb m' k
 |0,_,k,hk,_=>by omega
 |m+1,0,k,_,hk=>by omega
 | m+1,m'+1,k,h1,h2=>by
  by_cases hk2:2<=k
  . unfold KG;rw[if_neg (by omega),if_neg (by omega),if_neg (by omega),if_neg (by omega)]
    cases hn:d[k]? with
    |none=>rfl
    | some n=>
     obtain⟨g1,g2,g3,-⟩:=h.node k n hk2 hn;dsimp only;rw[JQ h m m' _ (by omega) (by omega),JQ h m m' n.2.2 (by omega) (by omega)]
  have:k=0\/k=1:=by omega
  rcases this with rfl|rfl<;>simp[KG]
def qiQ{d e0 e1 comb}:Vt d e0 e1 comb 0=e0:=by simp[Vt,KG]
def qiP{d e0 e1 comb}:Vt d e0 e1 comb 1=e1:=by simp[Vt,KG]
def wB{d}(h:DagOk d){e0 e1 comb k n}(h2:2<=k)(hn:d[k]?=some n):Vt d e0 e1 comb k=comb n (Vt d e0 e1 comb n.2.1) (Vt d e0 e1 comb n.2.2):=by
 obtain⟨g1,g2,g3,-⟩:=h.node k n h2 hn;unfold Vt;rw[KG,if_neg (by omega),if_neg (by omega),hn];dsimp only;rw[JQ h k (n.2.1+1) _ (by omega) (by omega),JQ h k (n.2.2+1) n.2.2 (by omega) (by omega)]
def Zi(n:Nd)(lo hi:Int):Int:=max (max (n.1:Int) lo) hi
def ye(d:List Nd)(k:Nat):Int:=Vt d (-1) (-1) Zi k
def qqx{d}(h:DagOk d)(N):∀(m k),k<m->k<d.length->(∀b c:Nat->Bool,(∀l,l<N->b l=c l)->evD d b k=evD d c k)->ye d k<N:=by
 intro m
 induction m with
 |zero=>intro k hk;omega
 | succ m ih=>
  intro k hkm hk hb;by_cases h2:2<=k
  . obtain⟨n,hn⟩:∃n,d[k]?=some n:=⟨_,List.getElem?_eq_getElem hk⟩;obtain⟨g1,g2,g3,g4,g5,g6⟩:=h.node k n h2 hn;have hlv:n.1<N:=by
     apply Classical.byContradiction;intro hc;refine g4 (qjh h (n.2.1+n.2.2) _ _ (by omega) (by omega) (by omega) (by omega) fun b=>?_);rw[<- WA h h2 hn b,<- WB h h2 hn b];refine hb _ _ fun l hl=>?_
     unfold qkd;rw[if_neg (by omega),if_neg (by omega)]
    have l1:=ih n.2.1 (by omega) (by omega) fun b c hbc=>by
     rw[<- WA h h2 hn b,<- WA h h2 hn c];refine hb _ _ fun l hl=>?_
     unfold qkd;split
     . rfl
     exact hbc l hl
    have l2:=ih n.2.2 (by omega) (by omega) fun b c hbc=>by
     rw[<- WB h h2 hn b,<- WB h h2 hn c];refine hb _ _ fun l hl=>?_
     unfold qkd;split
     . rfl
     exact hbc l hl
    unfold ye at *;rw[wB h h2 hn];unfold Zi at *;omega
  unfold ye;have:k=0\/k=1:=by omega
  rcases this with rfl|rfl
  . rw[qiQ];omega
  rw[qiP];omega
def WE(d:List Nd):Nat->Nat->Nat->Nat
 |_,0,k=>if k=1 then 1 else 0
 |l,m+1,k=>WE d (l+1) m (jU d k l false)+WE d (l+1) m (jU d k l true)
def Wu{d k l}(h:l<lvD d k)(v):jU d k l v=k:=by
 unfold jU;unfold lvD at h
 cases hn:d[k]? with
 |none=>rfl
 | some n=>
  rw[hn]at h;dsimp only at h⊢;rw[if_neg (by omega)]
def qbS{d k}:∀(j l m),l+j<=lvD d k->j<=m->WE d l m k=WE d (l+j) (m-j) k*2^j
 |0,l,m,_,_=>by simp
 |j+1,l,0,_,h=>by omega
 | j+1,l,m+1,h,hj=>by
  rw[WE,Wu (by omega),Wu (by omega),qbS j (l+1) m (by omega) (by omega),show l+1+j=l+(j+1) by omega,show m+1-(j+1)=m-j by omega,Nat.pow_succ];generalize WE d (l+(j+1)) (m-j) k=x;rw[<- Nat.mul_assoc,Nat.mul_two]
def VK(d):∀(m l k),WE d l m k<=2^m
 |0,l,k=>by unfold WE;split<;>simp
 | m+1,l,k=>by
  have h1:=VK d m (l+1) (jU d k l false);have h2:=VK d m (l+1) (jU d k l true);rw[WE,Nat.pow_succ];omega
def qb5:Nat->List (List Bool)
 |0=>[[]]
 |n+1=>(qb5 n).map (false::·)++(qb5 n).map (true::·)
def J0:∀{n:Nat}{l:List Bool},l∈qb5 n↔l.length=n
 |0,l=>by simp[qb5]
 |n+1,[]=>by simp[qb5]
 | n+1,b::l=>by
  cases b<;>simp[qb5,J0]
def WH:∀n,(qb5 n).Nodup
 |0=>by simp[qb5]
 | n+1=>by
  have h:=WH n;rw[qb5,List.nodup_append];refine⟨?_,?_,?_⟩
  . exact List.Pairwise.map _ (fun a b hab e=>hab (List.cons.inj e).2) h
  . exact List.Pairwise.map _ (fun a b hab e=>hab (List.cons.inj e).2) h
  intro a ha b hb e;obtain⟨x,-,rfl⟩:=List.mem_map.1 ha;obtain⟨y,-,rfl⟩:=List.mem_map.1 hb;cases e
def qod(l:List Bool):Nat->Bool:=fun i=>l.getD i false
def qjg{d:List Nd}(h:DagOk d){k N l:Nat}(hk:k<d.length)(hd:ye d k<N)(v:Bool):ye d (jU d k l v)<N:=by
 unfold jU;have hn:=List.getElem?_eq_getElem hk;rw[hn];dsimp only;split
 . rename_i hl;by_cases h2:2<=k
   . unfold ye at *;rw[wB h h2 hn]at hd;unfold Zi at *;split<;>omega
   have:k=0\/k=1:=by omega
   rcases this with rfl|rfl
   . have e:=h.n0;rw[hn]at e;rw[Option.some.inj e];simp only[ite_self];exact hd
   have e:=h.n1;rw[hn]at e;rw[Option.some.inj e];simp only[ite_self];exact hd
 exact hd
def qjf{d:List Nd}(h:DagOk d){k N:Nat}(h2:2<=k)(hk:k<d.length)(hd:ye d k<N):lvD d k<N:=by
 have hn:=List.getElem?_eq_getElem hk;unfold ye at hd;rw[wB h h2 hn]at hd;rw[zL hn];unfold Zi at hd;omega
def qbR{d}(h:DagOk d):∀(m l k) (pre),pre.length=l->l+m<=20->k<d.length->l<=lvD d k->ye d k<(l+m:Nat)->WE d l m k=(qb5 m).countP fun s=>evD d (qod (pre++s)) k
 | 0,l,k,pre,hp,hlm,hk,hl,hd=>by
  have hk2:¬2<=k:=fun h2=>by have:=qjf h h2 hk hd;omega
  unfold WE;simp only[qb5,List.countP_singleton,List.append_nil];rw[ZO h _ (by omega)];by_cases h1:k=1
  . simp[h1]
  simp[h1]
 | m+1,l,k,pre,hp,hlm,hk,hl,hd=>by
  have half:∀v:Bool,WE d (l+1) m (jU d k l v)=((qb5 m).map (v::·)).countP fun s=>evD d (qod (pre++s)) k:=fun v=>by
   obtain⟨a1,a2,a3⟩:=yD h hk (by omega:l<20) hl v;rw[qbR h m (l+1) (jU d k l v) (pre++[v]) (by simp[hp]) (by omega) a1 (by omega) (by have:=qjg h hk hd (l:=l) v;omega),List.countP_map];congr 1;funext s;simp only[Function.comp_apply];rw[List.append_assoc,List.singleton_append];exact(a3 _ (by unfold qod;rw[List.getD_eq_getElem?_getD,List.getElem?_append_right (by omega),hp,Nat.sub_self];rfl)).symm
  rw[WE,half,half,qb5,List.countP_append]
def qmG{d}(h:DagOk d){n k:Nat}(hn:n<=20)(hk:k<d.length)(hd:ye d k<n):WE d 0 n k=(qb5 n).countP fun s=>evD d (qod s) k:=by
 have:=qbR h n 0 k [] rfl (by omega) hk (Nat.zero_le _) (by omega);simpa using this
def wG(d:List Nd)(n k:Nat):Nat:=min (lvD d k) n
def JX(d:List Nd)(n k:Nat):Nat:=WE d (wG d n k) (n-wG d n k) k
def qtp{d}(h:DagOk d){n}(hn:n<=20):JX d n 0=0:=by
 have:wG d n 0=n:=by unfold wG;rw[qfZ h];omega
 unfold JX;rw[this,Nat.sub_self];rfl
def qto{d}(h:DagOk d){n}(hn:n<=20):JX d n 1=1:=by
 have:wG d n 1=n:=by unfold wG;rw[qfY h];omega
 unfold JX;rw[this,Nat.sub_self];rfl
def Kg{d n k l}(hl:l<=wG d n k):WE d l (n-l) k=JX d n k*2^(wG d n k-l):=by
 unfold JX;have h1:wG d n k<=lvD d k:=Nat.min_le_left _ _;have h2:wG d n k<=n:=Nat.min_le_right _ _;rw[qbS (wG d n k-l) l (n-l) (by omega) (by omega),show l+(wG d n k-l)=wG d n k by omega,show n-l-(wG d n k-l)=n-wG d n k by omega]
def qbP{d}(h:DagOk d){n k:Nat}{x}(hn:n<=20)(h2:2<=k)(hx:d[k]?=some x)(hd:ye d k<n):
 x.1<n/\x.1+1<=wG d n x.2.1/\x.1+1<=wG d n x.2.2/\ye d x.2.1<n/\ye d x.2.2<n/\JX d n k=JX d n x.2.1*2^(wG d n x.2.1-(x.1+1))+JX d n x.2.2*2^(wG d n x.2.2-(x.1+1)):=by
 have hk:=(List.getElem?_eq_some_iff.1 hx).1;obtain⟨g1,g2,g3,g4,g5,g6⟩:=h.node k x h2 hx;have hl:=qjf h h2 hk hd;rw[zL hx]at hl;have e1:x.1+1<=wG d n x.2.1:=by unfold wG;omega
 have e2:x.1+1<=wG d n x.2.2:=by unfold wG;omega
 have hd':=hd;unfold ye at hd';rw[wB h h2 hx]at hd';unfold Zi at hd';refine⟨hl,e1,e2,by unfold ye Zi;omega,by unfold ye Zi;omega,?_⟩;rw[<- Kg e1,<- Kg e2];unfold JX;rw[show wG d n k=x.1 by unfold wG;rw[zL hx];omega,show n-x.1=(n-(x.1+1))+1 by omega,WE];rw[show jU d k x.1 false=x.2.1 by unfold jU;rw[hx];simp,show jU d k x.1 true=x.2.2 by unfold jU;rw[hx];simp]
def qjm(d n k):JX d n k<=2^(n-wG d n k):=VK d _ _ _
end Go.Abs
namespace Go.Proofs.YtfmdnopgncbmoaaGreatDoor
open Go Go.Abs Proofs.Tryz Go.RowKit
def Z4:∀vs:List Var,(jF vs).Nodup
 |[]=>by simp[jF]
 | v::vs=>by
  have ih:=Z4 vs;have hc:∀x:Int,((jF vs).map (x::·)).Nodup:=fun x=>qBK.2 (ih.imp fun h e=>h (List.cons.inj e).2)
  by_cases h:v.mode=0
  . rw[Kp h];exact hc _
  rw[Kq h];refine List.pairwise_flatMap.2 ⟨fun n _=>hc _,(List.nodup_range (n:=z7 v)).imp fun {a b} hab x hx y hy e=>?_⟩;obtain⟨x',-,rfl⟩:=qza.1 hx;obtain⟨y',-,rfl⟩:=qza.1 hy;have:=(List.cons.inj e).1;exact hab (by omega)
def qtK{p}:∀(l) (x),x<LW p l->∃k i,l[k]?=some i/\LW p (l.take k)<=x/\x<LW p (l.take k)+jp p i
 |[],x,h=>by simp[LW]at h
 | i::l,x,h=>by
  by_cases hx:x<jp p i
  . exact⟨0,i,rfl,by simp[LW],by simpa[LW] using hx⟩
  have h2:LW p (i::l)=jp p i+LW p l:=by simp[LW]
  obtain⟨k,j,h3,h4,h5⟩:=qtK (p:=p) l (x-jp p i) (by omega);refine⟨k+1,j,by simpa using h3,?_,?_⟩
  . rw[qBb,show LW p (i::l.take k)=jp p i+LW p (l.take k) by simp[LW]];omega
  rw[qBb,show LW p (i::l.take k)=jp p i+LW p (l.take k) by simp[LW]];omega
def qq1{p l k i}(h:l[k]?=some i):LW p (l.take k)+jp p i<=LW p l:=by
 have e:l=l.take k++i::l.drop (k+1):=by
  obtain⟨h1,h2⟩:=qyF.1 h;have:=qzA k l;rw[qy1 h1,h2]at this;exact this.symm
 have:=congrArg (LW p) e;rw[qe1,show LW p (i::l.drop (k+1))=jp p i+LW p (l.drop (k+1)) by simp[LW]]at this;omega
def WG{p}(hv:qk p=0){b c}(h:∀l,l<LW p (NG p).flatten->b l=c l):Qd p.vars (qE p) b=Qd p.vars (qE p) c:=by
 have hl:=fun b=>(kl.1 (VU hv b)).len
 apply qzC;intro i;by_cases hi:i<p.vars.length
 . obtain⟨v,hvi⟩:∃v,p.vars[i]?=some v:=⟨_,qyH hi⟩;by_cases hm:v.mode=0
   . rw[VT b hvi hm,VT c hvi hm]
   rw[wW hv b hvi hm,wW hv c hvi hm];obtain⟨k,hk⟩:=qzq (W6 hv hvi hm);have e:JG p b i=JG p c i:=KQ fun j hj=>h _ (by
    rw[qbe hv hk];have:=qq1 (p:=p) hk;omega)
   rw[e]
 rw[qy6 (by rw[hl];omega),qy6 (by rw[hl];omega)]
def qmX{p}(hv:qk p=0){b c}(h:Qd p.vars (qE p) b=Qd p.vars (qE p) c):∀l,l<LW p (NG p).flatten->b l=c l:=by
 intro l hl;obtain⟨k,i,hk,h1,h2⟩:=qtK _ l hl;obtain⟨v,hvi,hm⟩:=kV hv (qyG hk);have e1:=wW hv b hvi hm;rw[h,wW hv c hvi hm]at e1;have e2:JG p b i=JG p c i:=by
  have:=Option.some.inj e1;omega
 have hl:=qbe hv hk;have f1:=Yb e2 (j:=l-ZD (qE p) i) (by omega);have f2:=Yb (rfl:JG p c i=JG p c i) (j:=l-ZD (qE p) i) (by omega);rw[show ZD (qE p) i+(l-ZD (qE p) i)=l by omega]at f1 f2;rw[f1,f2]
def qmR(n b){l}(hl:l<n):qod ((List.range n).map b) l=b l:=by
 unfold qod;rw[qyS,qy7,qBr hl];rfl
def VS{p}(hv:qk p=0):((qb5 (LW p (NG p).flatten)).map fun s=>Qd p.vars (qE p) (qod s)).Perm (jF p.vars):=by
 refine(List.perm_ext_iff_of_nodup ?_ (Z4 _)).2 fun a=>?_
 . refine qBK.2 (List.Pairwise.imp_of_mem (fun {s t} hs ht hst e=>hst ?_) (WH _));have ls:=J0.1 hs;have lt:=J0.1 ht;apply qzC;intro i;by_cases hi:i<LW p (NG p).flatten
   . have:=qmX hv e i hi;unfold qod at this;rw[qyS,qyS]at this;rw[qyH (by omega),qyH (by omega)]at this⊢;exact congrArg some (by simpa using this)
   rw[qy6 (by omega),qy6 (by omega)]
 constructor
 . intro h;obtain⟨s,-,rfl⟩:=qza.1 h;exact VU hv _
 intro h;obtain⟨b,hb,-⟩:=qbZ hv h;refine qza.2 ⟨(List.range (LW p (NG p).flatten)).map b,J0.2 (by simp),?_⟩;rw[<- hb];exact WG hv fun l hl=>qmR _ b hl
noncomputable def qo1(p:Problem)(R:List Ex):Nat:=(jF p.vars).countP (j9 p.vars R)
def qmE{p}(hv:qk p=0){R d}(hd:DagOk d){root}(hr:root<d.length)(hroot:∀b,evD d b root=j9 p.vars R (Qd p.vars (qE p) b)):
 ye d root<LW p (NG p).flatten/\WE d 0 (LW p (NG p).flatten) root=qo1 p R:=by
 have h1:ye d root<LW p (NG p).flatten:=qqx hd _ (root+1) root (by omega) hr fun b c hbc=>by rw[hroot,hroot,WG hv hbc]
 refine⟨h1,?_⟩;rw[qmG hd (qj8 hv) hr h1];unfold qo1;rw[<- (VS hv).countP_eq,qBR];congr 1;funext s;simp[hroot]
def qo6{s}(hv:qk s.p=0){a}(ha:a∈jF s.p.vars):okE s a=j9 s.p.vars s.R a:=by
 unfold okE j9;have has:=km hv ha;rw[qzz,qyP,qyP];refine⟨fun h e he=>?_,fun h e he=>Vz hv (by simpa using h e he) has⟩;have:=h e he;unfold jw at this;simp at this;simpa using this.2
def qh6{s}(hv:qk s.p=0):qud s=qo1 s.p s.R:=List.countP_congr fun a ha=>by rw[qo6 hv ha]
def V3:∀n,(qb5 n).length=2^n
 |0=>rfl
 |n+1=>by rw[qb5,qyK,qzk,qzk,V3 n,qA9];omega
def qj9{p}(hv:qk p=0)(hl:p.vars.length<=1000):(LW p (NG p).flatten:Int)=ku p.vars (qB p):=by
 obtain⟨h1,h2⟩:=V0 hv hl;have h3:=(VS hv).length_eq;rw[qzk,V3,h2]at h3;have:LW p (NG p).flatten=(p.vars.map qki).sum:=by
  rcases Nat.lt_trichotomy (LW p (NG p).flatten) (p.vars.map qki).sum with h|h|h
  . have:=Nat.pow_lt_pow_right (by decide:1<2) h;omega
  . exact h
  have:=Nat.pow_lt_pow_right (by decide:1<2) h;omega
 rw[h1,this]
structure FoB where
 E:Nat
 D:Nat
 G:Nat
 V:Nat
 C:Nat
 K:Nat
 DL:Nat
 KL:Nat
def qqq(b:Bool):AV:=.bool b
def qmr(n:Int):AV:=.int .i64 n
structure FoOk(B:FoB)(nv cf:AV)(e0 e1:Int)(f:Nat)(val:Nat->Int)(H:List Blk):Prop where
 e:H[B.E]?=some (.cells [.int .i64 e0,.int .i64 e1])
 d:H[B.D]?=some (.cells [.ms B.DL 0 (f+1) 1])
 g:H[B.G]?=some (.cells [nv])
 v:H[B.V]?=some (.cells [.fn 132 [] [.ptr B.E 0,.ptr B.D 0,.ptr B.G 0,.ptr B.V 0,.ptr B.C 0,.ptr B.K 0]])
 c:H[B.C]?=some (.cells [cf])
 k:H[B.K]?=some (.cells [.ms B.KL 0 (f+1) 1])
 ne:B.DL≠B.KL
 o:∀b∈[B.E,B.D,B.G,B.V,B.C,B.K],b≠B.DL/\b≠B.KL
 r:∃(dn:List Bool) (kn:List Int),H[B.DL]?=some (.cells (dn.map qqq))/\H[B.KL]?=some (.cells (kn.map qmr))/\dn.length=f+1/\kn.length=f+1/\∀j,dn[j]?=some true->kn[j]?=some (val j)
def FoOk.keep{B nv cf e0 e1 f val H H'}(h:FoOk B nv cf e0 e1 f val H)(hk:KpL [] H H'):FoOk B nv cf e0 e1 f val H':=by
 obtain⟨dn,kn,h1,h2,h3⟩:=h.r;exact⟨hk.2 _ _ h.e (by simp),hk.2 _ _ h.d (by simp),hk.2 _ _ h.g (by simp),hk.2 _ _ h.v (by simp),hk.2 _ _ h.c (by simp),hk.2 _ _ h.k (by simp),h.ne,h.o,dn,kn,hk.2 _ _ h1 (by simp),hk.2 _ _ h2 (by simp),h3⟩
def FoQ(B:FoB)(nv cf:AV)(e0 e1:Int)(f:Nat)(val:Nat->Int)(k:Nat)(H:List Blk)(r:AV)(U':St):Prop:=r=.int .i64 (val k)/\KpL [B.DL,B.KL] H U'.H/\FoOk B nv cf e0 e1 f val U'.H
def qli:List (Nat×Sch×List Nat):=[(5,.step 0 [9,8,7,3] (.step 1 [9,8,7,3,2] (.step 2 [9,8,7,3] (.step 5 [9,8,7,6] (.fork (.cons 3 (.step 4 [9,8,7] (.step 6 [9,8,7] (.step 7 [9,8] (.step 8 [9] (.step 9 [] (.done)))))) (.cons 4 (.fork (.cons 3 (.step 6 [9,8,7] (.step 7 [9,8] (.step 8 [9] (.step 9 [] (.done))))) (.cons 6 (.step 3 [9,8,7] (.step 7 [9,8] (.step 8 [9] (.step 9 [] (.done))))) (.nil)))) (.cons 6 (.fork (.cons 3 (.step 4 [9,8,7] (.step 7 [9,8] (.step 8 [9] (.step 9 [] (.done))))) (.cons 4 (.step 3 [9,8,7] (.step 7 [9,8] (.step 8 [9] (.step 9 [] (.done))))) (.nil)))) (.nil)))))))),[3,7]),(6,.step 1 [12,11,10,9] (.step 3 [12,11] (.step 4 [12,11,10,9,8] (.step 5 [12,11,10,9,8] (.step 6 [12,11,10,9,8] (.step 7 [12,11,10,9,8] (.fork (.cons 0 (.fork (.cons 2 (.step 8 [12,11,10,9] (.step 9 [12,11,10] (.step 10 [12,11] (.step 11 [12] (.step 12 [] (.done)))))) (.cons 8 (.step 9 [12,11,10] (.fork (.cons 2 (.step 10 [12,11] (.step 11 [12] (.step 12 [] (.done)))) (.cons 10 (.step 2 [12,11] (.step 11 [12] (.step 12 [] (.done)))) (.nil))))) (.nil)))) (.cons 2 (.fork (.cons 0 (.step 8 [12,11,10,9] (.step 9 [12,11,10] (.step 10 [12,11] (.step 11 [12] (.step 12 [] (.done)))))) (.cons 8 (.step 0 [12,11,10,9] (.step 9 [12,11,10] (.step 10 [12,11] (.step 11 [12] (.step 12 [] (.done)))))) (.nil)))) (.cons 8 (.step 0 [12,11,10,9] (.step 9 [12,11,10] (.fork (.cons 2 (.step 10 [12,11] (.step 11 [12] (.step 12 [] (.done)))) (.cons 10 (.step 2 [12,11] (.step 11 [12] (.step 12 [] (.done)))) (.nil)))))) (.nil)))))))))),[8])]
def qqs{dn:List Bool}{k b}(h:dn[k]?=some b):(dn.map qqq).drop k=.bool b::(dn.map qqq).drop (k+1):=by
 have h':(dn.map qqq)[k]?=some (.bool b):=by rw[qy7,h];rfl
 obtain⟨h1,h2⟩:=qyF.1 h';rw[qy1 h1,h2]
def qpS{kn:List Int}{k b}(h:kn[k]?=some b):(kn.map qmr).drop k=.int .i64 b::(kn.map qmr).drop (k+1):=by
 have h':(kn.map qmr)[k]?=some (.int .i64 b):=by rw[qy7,h];rfl
 obtain⟨h1,h2⟩:=qyF.1 h';rw[qy1 h1,h2]
def qqa{B nv cf e0 e1 f val H0 H k r}{dn:List Bool}{kn:List Int}(h:FoOk B nv cf e0 e1 f val H)(hk:k<=f)(h1:H[B.DL]?=some (.cells (dn.map qqq)))(h2:H[B.KL]?=some (.cells (kn.map qmr)))(l1:dn.length=f+1)(l2:kn.length=f+1)
 (hv:∀j,dn[j]?=some true->kn[j]?=some (val j)) (hr:r=val k) (hkp:KpL [B.DL,B.KL] H0 H) (T):FoQ B nv cf e0 e1 f val k H0 (.int .i64 r) ⟨(H.set B.KL (.cells ((kn.map qmr).set k (.int .i64 r)))).set B.DL (.cells ((dn.map qqq).set k (.bool true))),T⟩:=by
 have lD:=(qyF.1 h1).1;have lK:=(qyF.1 h2).1;have hs:∀b∈[B.E,B.D,B.G,B.V,B.C,B.K],∀y z,((H.set B.KL y).set B.DL z)[b]?=H[b]?:=fun b hb y z=>by
  obtain⟨o1,o2⟩:=h.o b hb;rw[qyI (Ne.symm o1),qyI (Ne.symm o2)]
 refine⟨by rw[hr],hkp.trans (qDi (qDk (by simp)) (qDk (by simp))),?_⟩;refine⟨by rw[hs _ (by simp)];exact h.e,by rw[hs _ (by simp)];exact h.d,by rw[hs _ (by simp)];exact h.g,by rw[hs _ (by simp)];exact h.v,by rw[hs _ (by simp)];exact h.c,by rw[hs _ (by simp)];exact h.k,h.ne,h.o,dn.set k true,kn.set k r,?_,?_,by simp[l1],by simp[l2],?_⟩
 . dsimp only;rw[qyL (by rwa[qzZ]),qBQ];rfl
 . dsimp only;rw[qyI h.ne,qyL lK,qBQ];rfl
 intro j hj;by_cases hjk:k=j
 . subst hjk;rw[qyL (by omega),hr]
 rw[qyI hjk]at hj⊢;exact hv j hj
def qp9{B:FoB}(Rc:Nat->Prop){d:List Nd}{tok:Abs.Tok}(hd:DagOk d){c:Nat}{cfr:List AV}{e0 e1:Int}{f:Nat}{val:Nat->Int}(hf:f<d.length)(P:List Blk->Prop)(hP:∀H H',P H->KpL [B.DL,B.KL] H H'->P H')
 (comb:Nd->Int->Int->Int) (hv0:val 0=e0) (hv1:val 1=e1) (hv2:∀k n,Rc k->2<=k->d[k]?=some n->Rc n.2.1/\Rc n.2.2/\val k=comb n (val n.2.1) (val n.2.2))
 (hc:∀k n (H:List Blk) (T:List (Option Nat)),Rc k->2<=k->d[k]?=some n->P H->qf prog GG c ([.agg (qw n),.int .i64 (val n.2.1),.int .i64 (val n.2.2)]++cfr) ⟨H,T⟩ (fun r U'=>r=.int .i64 (comb n (val n.2.1) (val n.2.2))/\KpL [] H U'.H)):
 ∀ (m k:Nat),k<m->k<=f->Rc k->∀(H:List Blk) (T:List (Option Nat)),P H->FoOk B (.sl 3 (d.map qw) tok) (.fn c [] cfr) e0 e1 f val H ->
  qf prog GG 132 [.int .i64 k,.ptr B.E 0,.ptr B.D 0,.ptr B.G 0,.ptr B.V 0,.ptr B.C 0,.ptr B.K 0] ⟨H,T⟩ (FoQ B (.sl 3 (d.map qw) tok) (.fn c [] cfr) e0 e1 f val k H):=by
 intro m
 induction m with
 |zero=>intro k hk;omega
 | succ m ih=>
  intro k hkm hkf hRk H T hPH hok;refine qCM ⟨false,qli,[],[]⟩ qe func132 rfl (by kernel_rfl) ?_;obtain⟨dn,kn,hdn,hkn,ldn,lkn,hval⟩:=hok.r;obtain⟨bE,bD,bG,bV,bC,bK,hne,ho,-⟩:=id hok;by_cases h2:k<2
  . have fin:∀u,FoQ B (.sl 3 (d.map qw) tok) (.fn c [] cfr) e0 e1 f val k H (.int .i64 (val k)) ⟨H++u,T⟩:=fun u=>⟨rfl,qDj,hok.keep qDj⟩
    have hk01:k=0\/k=1:=(by omega);rcases hk01 with rfl|rfl
    . rw[hv0]at fin;simp[bE];have:=fin [];simpa using this
    rw[hv1]at fin;simp[bE];have:=fin [];simpa using this
  have h2':¬(k:Int)<2:=by omega
  have h2b:2<=k:=by omega
  obtain⟨n,hn⟩:∃n,d[k]?=some n:=⟨_,qyH (by omega)⟩;obtain⟨b,hb⟩:∃b,dn[k]?=some b:=⟨_,qyH (by omega)⟩;have hdr:=qqs hb;have hkl':(k:Int)<f+1:=by omega
  cases b with
  | true=>
   have hkv:=hval k hb;have hdk:=qpS hkv;simp[h2',hkf,bD,bK,hdn,hkn,hdr,hdk,hkl',ldn,lkn];exact⟨rfl,qDh,hok⟩
  | false=>
   obtain⟨hn20,hlo,hhi,-⟩:=hd.node k n h2b hn;obtain⟨nl,lo,hi⟩:=n;dsimp only at hlo hhi;simp[h2',hkf,bD,bG,hdn,hdr,hkl',ldn,hn];rw[qJ rfl];have bV0:=qa bV;simp[qX,bV0];have hP0:P (H++[.cells [.int .i64 nl,.int .i64 lo,.int .i64 hi]]):=hP _ _ hPH qDj;have hv2k:=hv2 k _ hRk h2b hn;dsimp only at hv2k;have c1:=ih lo (by omega) (by omega) hv2k.1 (H++[.cells [.int .i64 nl,.int .i64 lo,.int .i64 hi]]) T hP0 (hok.keep qDj);have hlD:=(qyF.1 hdn).1;have hlK:=(qyF.1 hkn).1;have hbX:H.length≠B.DL/\H.length≠B.KL:=⟨by omega,by omega⟩
   repeat' with_reducible refine And.intro ?_ ?_
   all_goals
    refine qCQ c1 ?_;rintro r ⟨H1,T1⟩ ⟨rfl,hk1,ok1⟩;have bX1:=hk1.2 _ _ lk0 (by simpa using hbX);have bV1:=ok1.v;have P1:=hP _ _ hP0 hk1;have c2:=ih hi (by omega) (by omega) hv2k.2.1 H1 T1 P1 ok1;simp[qX,bV1,bX1];refine qCQ c2 ?_;rintro r ⟨H2,T2⟩ ⟨rfl,hk2,ok2⟩;have bX2:=hk2.2 _ _ bX1 (by simpa using hbX);have P2:=hP _ _ P1 hk2;obtain⟨dn2,kn2,hdn2,hkn2,ldn2,lkn2,hval2⟩:=ok2.r;obtain⟨bE2,bD2,bG2,bV2,bC2,bK2,-,-,-⟩:=id ok2;simp[qX];rw[qJ rfl];simp[qX,bX2,bC2,bK2,bD2]
    repeat' with_reducible refine And.intro ?_ ?_
    all_goals
     have c3:=hc k (nl,lo,hi) H2 T2 hRk h2b hn P2;simp only[qw,qy3,qy2]at c3;refine qCQ c3 ?_;rintro r ⟨H3,T3⟩ ⟨rfl,hk3⟩;have ok3:=ok2.keep hk3;have hdn3:=hk3.2 _ _ hdn2 (by simp);have hkn3:=hk3.2 _ _ hkn2 (by simp);have bK3:=ok3.k;have bD3:=ok3.d;have lK3:=(qyF.1 hkn3).1;have oK:=ho B.K (by simp);have oD:=ho B.D (by simp);have fin:=qqa (r:=comb (nl,lo,hi) (val lo) (val hi)) ok3 hkf hdn3 hkn3 ldn2 lkn2 hval2 (hv2k.2.2).symm (qDi (qDj.trans (hk1.trans hk2)) (hk3.sub (by simp))) T3;have q1:∀y,(H3.set B.KL y)[B.D]?=some (.cells [.ms B.DL 0 (f+1) 1]):=fun y=>by rw[qyI (Ne.symm oD.2)];exact bD3
     have q2:∀y,(H3.set B.KL y)[B.K]?=some (.cells [.ms B.KL 0 (f+1) 1]):=fun y=>by rw[qyI (Ne.symm oK.2)];exact bK3
     have q3:∀y,(H3.set B.KL y)[B.DL]?=some (.cells (dn2.map qqq)):=fun y=>by rw[qyI (Ne.symm hne)];exact hdn3
     have q4:∀y z,((H3.set B.KL y).set B.DL z)[B.K]?=some (.cells [.ms B.KL 0 (f+1) 1]):=fun y z=>by rw[qyI (Ne.symm oK.1)];exact q2 y
     have q5:∀y z,((H3.set B.KL y).set B.DL z)[B.KL]?=some y:=fun y z=>by rw[qyI hne];exact qyL lK3
     have q6:∀x,((kn2.map qmr).set k x).drop k=x::(kn2.map qmr).drop (k+1):=fun x=>by
      have hl:k<((kn2.map qmr).set k x).length:=(by simp;omega);rw[qy1 hl,List.getElem_set_self,List.drop_set_of_lt (by omega)]
     simp[qX,q6,bK3,bD3,hkn3,q1,q3,q4,q5,hkf,ldn2,lkn2,hkl'];exact fin
def qiR(Rc:Nat->Prop){d:List Nd}(hd:DagOk d){c:Nat}{cfr:List AV}{e0 e1:Int}{f:Nat}{val:Nat->Int}(hf:f<d.length)(hRf:Rc f)
 (comb:Nd->Int->Int->Int) (hv0:val 0=e0) (hv1:val 1=e1) (hv2:∀k n,Rc k->2<=k->d[k]?=some n->Rc n.2.1/\Rc n.2.2/\val k=comb n (val n.2.1) (val n.2.2)) (H:List Blk) (T:List (Option Nat))
 (hc:∀k n (H':List Blk) (T':List (Option Nat)),Rc k->2<=k->d[k]?=some n->KpL [] H H'->qf prog GG c ([.agg (qw n),.int .i64 (val n.2.1),.int .i64 (val n.2.2)]++cfr) ⟨H',T'⟩ (fun r U'=>r=.int .i64 (comb n (val n.2.1) (val n.2.2))/\KpL [] H' U'.H)):
 qf prog GG 82 [.agg [.sl 3 (d.map qw) .none],.int .i64 f,.agg [.int .i64 e0,.int .i64 e1],.fn c [] cfr] ⟨H,T⟩ (fun r U'=>r=.int .i64 (val f)/\KpL [] H U'.H):=by
 refine qCN qe func82 rfl (by kernel_rfl) ?_;have hdm:=hd.most;have hw:=wr (n:=(f:Int)+1) (by omega) (by omega);have h1:(f:Int)+1<=549755813888:=by omega
 have h2:(0:Int)<=(f:Int)+1:=by omega
 simp[hw,qz,show ¬(f:Int)+1=0 by omega,h1,h2];have lk:∀(a b c d e f g h:Blk),(H++[a,b,c,d,e,f,g,h])[H.length]?=some a/\(H++[a,b,c,d,e,f,g,h])[H.length+1]?=some b/\(H++[a,b,c,d,e,f,g,h])[H.length+2]?=some c/\(H++[a,b,c,d,e,f,g,h])[H.length+3]?=some d/\(H++[a,b,c,d,e,f,g,h])[H.length+4]?=some e/\(H++[a,b,c,d,e,f,g,h])[H.length+5]?=some f/\(H++[a,b,c,d,e,f,g,h])[H.length+6]?=some g/\(H++[a,b,c,d,e,f,g,h])[H.length+7]?=some h:=by
  intros
  refine⟨?_,?_,?_,?_,?_,?_,?_,?_⟩<;>simp[]
 have hfo:=qp9 (B:=⟨H.length+1,H.length+6,H.length,H.length+7,H.length+2,H.length+4,H.length+5,H.length+3⟩) Rc (tok:=.none) hd (c:=c) (cfr:=cfr) (e0:=e0) (e1:=e1) (f:=f) (val:=val) hf (fun H'=>KpL [] H H')
  (fun H1 H2 h1 h2=>⟨qzs h1.1 h2.1,fun k x hk _=>h2.2 k x (h1.2 k x hk (by simp)) (by have:=(qyF.1 hk).1;simp;omega)⟩) comb hv0 hv1 hv2 hc (f+1) f (by omega) (qyQ _) hRf
 refine qCQ (hfo _ _ qDj ?_) ?_
 . obtain⟨a0,a1,a2,a3,a4,a5,a6,a7⟩:=lk (.cells [.sl 3 (d.map qw) .none]) (.cells [.int .i64 e0,.int .i64 e1]) (.cells [.fn c [] cfr]) (.cells (List.replicate (f+1) (.int .i64 0))) (.cells [.ms (H.length+3) 0 (f+1) 1]) (.cells (List.replicate (f+1) (.bool false))) (.cells [.ms (H.length+5) 0 (f+1) 1]) (.cells [.fn 132 [] [.ptr (H.length+1) 0,.ptr (H.length+6) 0,.ptr H.length 0,.ptr (H.length+7) 0,.ptr (H.length+2) 0,.ptr (H.length+4) 0]]);refine⟨a1,a6,a0,a7,a2,a4,by dsimp only;omega,by simp,List.replicate (f+1) false,List.replicate (f+1) 0,by dsimp only;rw[a5,qBA];rfl,by dsimp only;rw[a3,qBA];rfl,by simp,by simp,fun j hj=>?_⟩;rw[qBH]at hj;split at hj<;>cases hj
 rintro r ⟨H1,T1⟩ ⟨rfl,hk1,-⟩;simp;exact⟨qzs (by simp) hk1.1,fun k x hk _=>hk1.2 k x (qa hk _) (by have:=(qyF.1 hk).1;simp;omega)⟩
def qqc(n a b H T):qf prog GG 83 [.agg (qw n),.int .i64 a,.int .i64 b] ⟨H,T⟩ (fun r U'=>r=.int .i64 (Zi n a b)/\KpL [] H U'.H):=by
 refine⟨by kernel_rfl,fun w0 ro0 K w vs hw hvs=>?_⟩;simp only[qh,qg,qw]at hvs;obtain⟨v0,vr,e0,⟨cs,rfl,c0,cr,e1,rfl,c1,cr1,rfl,rfl,c2,cr2,rfl,rfl,rfl⟩,v1,vr1,rfl,rfl,v2,vr2,rfl,rfl,rfl⟩:=hvs;have ecs:cs = #[.int .i64 n.1,.int .i64 n.2.1,.int .i64 n.2.2]:=by apply Array.ext';simpa using e1
 subst ecs;have evs:vs = #[.agg #[.int .i64 n.1,.int .i64 n.2.1,.int .i64 n.2.2],.int .i64 a,.int .i64 b]:=by apply Array.ext';simpa using e0
 subst evs
 go_enter func83,Tryz.ntmps83
 go_wp2
 have hmax:∀W:World,Sem.run prog (Builtin.max_ #[3,3,3] 3 #[.int .i64 n.1,.int .i64 a,.int .i64 b]) W=.ok (.int .i64 (Zi n a b)) W:=fun W=>by
  have e:(if b > (if a > (n.1:Int) then a else(n.1:Int)) then b else(if a > (n.1:Int) then a else(n.1:Int)))=Zi n a b:=by
   unfold Zi;split<;>split<;>omega
  rw[<- e];simp[Builtin.max_,Builtin.max2]
 rw[hmax];simp only[Result.andThen];rw[Oper.upon_value]
 go_wp2
 have hw3:=hw.push (b:=.cells [.int .i64 n.1,.int .i64 n.2.1,.int .i64 n.2.2]) (o:=.cells #[.int .i64 n.1,.int .i64 n.2.1,.int .i64 n.2.2] 139) ⟨_,139,rfl,by simp,by simp,fun i a e=>by
  match i,e with
  |0,e=>simp at e;subst e;exact⟨_,rfl,by simp[qg]⟩
  |1,e=>simp at e;subst e;exact⟨_,rfl,by simp[qg]⟩
  |2,e=>simp at e;subst e;exact⟨_,rfl,by simp[qg]⟩
  |i+3,e=>simp at e⟩
 simp only[bodyPost];refine⟨trivial,.int .i64 (Zi n a b),by simp[results,Tryz.results83,go_sem],.inl ⟨_,.int .i64 (Zi n a b),_,_,rfl,qCZ hw w.heap.size _,hw3,by simp[qg],rfl,qDj⟩⟩
def Vm{d:List Nd}{k n:Nat}(hk:k<d.length):Pure prog GG 85 [.agg [.sl 3 (d.map qw) .none,.int .i64 n],.int .i64 k] (.int .i64 (wG d n k:Nat)):=by
 refine qCL qe func85 rfl (by kernel_rfl) ?_;obtain⟨x,hx⟩:∃x,d[k]?=some x:=⟨_,qyH hk⟩;have hl:vd (.int .i64 (x.1:Int)) (.int .i64 (n:Int))=some (.int .i64 (wG d n k:Nat)):=by
  have:wG d n k=min x.1 n:=by unfold wG;rw[zL hx]
  rw[this];simp only[vd];congr 2;split<;>omega
 simp[hx,hl]
def qwq(a s:Nat)(hs:s<=20)(ha:a*2^s<2^62):IntKind.i64.wrap ((a:Int)*2^(min s 64))=((a*2^s:Nat):Int):=by
 rw[show min s 64=s by omega,show((a:Int)*2^s)=((a*2^s:Nat):Int) by simp];generalize a*2^s=N at ha;rw[wr (by omega) (by omega)]
def qqB(d:List Nd)(n:Nat)(x:Nd)(a b:Int):Int:=a*2^(wG d n x.2.1-(x.1+1))+b*2^(wG d n x.2.2-(x.1+1))
def qmT{d}(hd:DagOk d){n k:Nat}{x}(hn:n<=20)(h2:2<=k)(hx:d[k]?=some x)(hdp:ye d k<n){C H}(hC:H[C]?=some (.cells [.sl 3 (d.map qw) .none,.int .i64 n]))(T):
 qf prog GG 133 [.agg (qw x),.int .i64 (JX d n x.2.1:Nat),.int .i64 (JX d n x.2.2:Nat),.ptr C 0] ⟨H,T⟩ (fun r U'=>r=.int .i64 (JX d n k:Nat)/\KpL [] H U'.H):=by
 refine qCN qe func133 rfl (by kernel_rfl) ?_;obtain⟨c1,c2,c3,c4,c5,c6⟩:=qbP hd hn h2 hx hdp;obtain⟨g1,g2,g3,g4,g5,g6⟩:=hd.node k x h2 hx;have hk:=(qyF.1 hx).1;have b1:=qjm d n x.2.1;have b2:=qjm d n x.2.2;have l1:=Vm (d:=d) (k:=x.2.1) (n:=n) (by omega);have l2:=Vm (d:=d) (k:=x.2.2) (n:=n) (by omega);have m1:wG d n x.2.1<=n:=qAW _ _;have m2:wG d n x.2.2<=n:=qAW _ _;obtain⟨L,lo,hi⟩:=x;dsimp only at *;generalize JX d n lo=A at *;generalize JX d n hi=B at *;generalize wG d n lo=P at *;generalize wG d n hi=Q at *;have p20:∀{a m s:Nat},a<=2^m->m+s<=20->a*2^s<=2^20:=fun {a m s} h1 h2=>by
  have:=qzx (2^s) h1;rw[<- qBq]at this;exact qzs this (qzc (by omega) h2)
 have e1:=p20 (s:=P-(L+1)) b1 (by omega);have e2:=p20 (s:=Q-(L+1)) b2 (by omega);have s1:=qwq A (P-(L+1)) (by omega) (by omega);have s2:=qwq B (Q-(L+1)) (by omega) (by omega);rw[c6];generalize A*2^(P-(L+1))=U_ at *;generalize B*2^(Q-(L+1))=V at *;have w1:=wr (n:=(P:Int)-L) (by omega) (by omega);have w2:=wr (n:=(P:Int)-L-1) (by omega) (by omega);have w3:=wr (n:=(Q:Int)-L) (by omega) (by omega);have w4:=wr (n:=(Q:Int)-L-1) (by omega) (by omega);have w5:=wr (n:=(U_:Int)+V) (by omega) (by omega);have q1:(P:Int)-L-1=((P-(L+1):Nat):Int):=by omega
 have q2:(Q:Int)-L-1=((Q-(L+1):Nat):Int):=by omega
 rw[q1]at w2;rw[q2]at w4;have hC0:=qa hC;simp[-qu,hC0];refine qCO l1 (by simp) ?_;simp[-qu,Jh,hC0,w1,w2,q1,s1,show ¬((P-(L+1):Nat):Int)<0 by omega,IntKind.bits];refine qCO l2 (by simp) ?_;simp[-qu,Jh,YA,w3,w4,q2,s2,show ¬((Q-(L+1):Nat):Int)<0 by omega,w5,IntKind.bits];exact qDj
def qoc{d}(hd:DagOk d){n:Nat}(hn:n<=20):∀k x,(k<d.length/\ye d k<n)->2<=k->d[k]?=some x->(x.2.1<d.length/\ye d x.2.1<n)/\(x.2.2<d.length/\ye d x.2.2<n)/\(JX d n k:Int)=qqB d n x (JX d n x.2.1:Nat) (JX d n x.2.2:Nat):=fun k x hk h2 hx=>by
 obtain⟨c1,c2,c3,c4,c5,c6⟩:=qbP hd hn h2 hx hk.2;obtain⟨g1,g2,g3,g4,g5,g6⟩:=hd.node k x h2 hx;refine⟨⟨by omega,c4⟩,⟨by omega,c5⟩,?_⟩;rw[c6];simp[qqB]
def qmU{d}(hd:DagOk d){n k:Nat}(hn:n<=20)(hk:k<d.length)(hdp:ye d k<n)(H T):
 qf prog GG 84 [.agg [.sl 3 (d.map qw) .none,.int .i64 n],.int .i64 k] ⟨H,T⟩ (fun r U'=>r=.int .i64 (JX d n k:Nat)/\KpL [] H U'.H):=by
 refine qCN qe func84 rfl (by kernel_rfl) ?_;have hf:=qiR (fun k=>k<d.length/\ye d k<n) hd (c:=133) (cfr:=[.ptr H.length 0]) (e0:=0) (e1:=1) (f:=k) (val:=fun k=>(JX d n k:Nat)) hk ⟨hk,hdp⟩ (qqB d n) (by rw[qtp hd hn];rfl) (by rw[qto hd hn];rfl) (qoc hd hn)
  (H++[.cells [.sl 3 (d.map qw) .none,.int .i64 n]]) T (fun k x H' T' hk h2 hx hk'=>by
    have:=qmT hd hn h2 hx hk.2 (C:=H.length) (H:=H') (hk'.2 _ _ lk0 (by simp)) T';rw[<- (qoc hd hn k x hk h2 hx).2.2];exact this)
 simp;refine qCQ hf ?_;rintro r ⟨H1,T1⟩ ⟨rfl,hk1⟩;simp;exact qDj.trans hk1
def qlo:List (Nat×Sch×List Nat):=[(1,.step 0 [9,8,7,5,2] (.step 1 [9,8,7,5,2] (.step 4 [9,8,7,5] (.step 6 [9,8,7] (.fork (.cons 2 (.step 3 [9,8,7,5] (.step 5 [9,8,7] (.step 7 [9,8] (.step 8 [9] (.step 9 [] (.done)))))) (.cons 3 (.step 2 [9,8,7,5] (.step 5 [9,8,7] (.step 7 [9,8] (.step 8 [9] (.step 9 [] (.done)))))) (.nil))))))),[2])]
def qp7{d}(hd:DagOk d){n k:Nat}(hn:n<=20)(hk:k<d.length)(hdp:ye d k<n)(H T):
 qf prog GG 42 [.agg [.sl 3 (d.map qw) .none,.int .i64 n],.int .i64 k,.int .i64 0] ⟨H,T⟩ (fun r U'=>r=.int .i64 (WE d 0 n k:Nat)/\KpL [] H U'.H):=by
 refine qCM ⟨false,qlo,[],[]⟩ qe func42 rfl (by kernel_rfl) ?_;have hb:=qmU hd hn hk hdp (H++[.cells [.sl 3 (d.map qw) .none,.int .i64 n]]) T;have hl:=Vm (d:=d) (k:=k) (n:=n) hk;have hc:=Kg (d:=d) (n:=n) (k:=k) (l:=0) (qAA _);have hle:=VK d n 0 k;have m1:wG d n k<=n:=qAW _ _;rw[qCd,qCd]at hc;rw[hc]at hle⊢;have h20:(2:Nat)^n<=2^20:=qzc (by omega) hn;have s1:=qwq (JX d n k) (wG d n k) (by omega) (by omega);generalize JX d n k*2^wG d n k=U_ at *;generalize JX d n k=A at *;generalize wG d n k=P at *;have w1:=wr (n:=(P:Int)) (by omega) (by omega);simp;rw[qJ rfl];simp[qX];refine⟨qCQ hb ?_,qCQ hb ?_⟩
 all_goals
  rintro r ⟨H1,T1⟩ ⟨rfl,hk1⟩;have b1:=hk1.2 _ _ lk0 (by simp);simp[qX,b1];refine qCO hl (by simp) ?_;simp[-qu,qX,Jh,w1,show ¬(P:Int)<0 by omega,s1,IntKind.bits];exact qDj.trans hk1
def qqd{d:List Nd}(hd:DagOk d){n k:Nat}(hn:n<=20)(hk:k<d.length)(hdp:ye d k<n)(H:List Blk)(T:List (Option Nat)):
 qf prog GG 41 [.agg (zs d),.int .i64 k,.int .i64 n] ⟨H,T⟩ (fun r U'=>r=.bool true/\KpL [] H U'.H):=by
 refine qCN qe func41 rfl (by kernel_rfl) ?_;have hf:=qiR (fun _=>True) hd (c:=83) (cfr:=[]) (e0:=-1) (e1:=-1) (f:=k) (val:=ye d) hk trivial Zi qiQ qiP (fun k x _ h2 hx=>⟨trivial,trivial,wB hd h2 hx⟩)
  (H++[.cells (zs d)]) T (fun k x H' T' _ h2 hx hk'=>qqc x _ _ H' T')
 simp only[zs]at hf;have hv:=Kd d hd;simp only[zs]at hv;generalize ye d k=D at *;simp[show ¬(n:Int)<0 by omega,show ¬(20:Int)<n by omega,show ¬d.length<=k by omega];refine qCO hv (by simp) ?_;simp[show ¬(k:Int)<0 by omega,show ¬(d.length:Int)<=k by omega];refine qCQ hf ?_;rintro r ⟨H1,T1⟩ ⟨rfl,hk1⟩;simp[hdp];exact qDj.trans hk1
def qqA{d}(hd:DagOk d){n k:Nat}(hn:n<=20)(hk:k<d.length)(hdp:ye d k<n)(H T):
 qf prog GG 18 [.agg (zs d),.int .i64 k,.int .i64 n] ⟨H,T⟩ (fun r U'=>r=.tup [.int .i64 (WE d 0 n k:Nat),.int .i64 0]/\KpL [] H U'.H):=by
 refine qCN qe func18 rfl (by kernel_rfl) ?_;have hf:=qqd hd hn hk hdp (H++[.cells (zs d)]) T;simp only[zs]at hf;simp;refine qCQ hf ?_;rintro r ⟨H1,T1⟩ ⟨rfl,hk1⟩;have b1:=hk1.2 _ _ lk0 (by simp);simp[b1];refine qCQ (qp7 hd hn hk hdp H1 T1) ?_;rintro r ⟨H2,T2⟩ ⟨rfl,hk2⟩;simp;exact qDj.trans (hk1.trans hk2)
structure RnH(p):Prop where
 q:VQ p
 v20:p.vars.length<=20
 bits:ku p.vars (qB p)<=18
 dl:p.dists.length<=10000
 sl:p.soft.length<=10000
 wl:∀d∈p.dists,d.weights.length<=1000
noncomputable def jj(p:Problem):Nat×Int:=if(ql p).2≠0 then(0,(ql p).2) else(qo1 p (ql p).1,0)
def qpl:List (Nat×Sch×List Nat):=[(5,.step 0 [14,13,12,11,10,3,2,1] (.step 1 [14,13,12,11,10,3,2] (.step 2 [14,13,12,11,10,3] (.step 3 [14,13,12,11,10] (.step 4 [14,13,12,11,10,7,6,5] (.step 5 [14,13,12,11,10,7,6] (.step 6 [14,13,12,11,10,7] (.step 7 [14,13,12,11,10] (.step 8 [14,13,12,11,10,9] (.step 9 [14,13,12,11,10] (.step 10 [14,13,12,11] (.step 11 [14,13] (.step 12 [14,13] (.step 13 [14] (.step 14 [] (.done))))))))))))))),[10])]
def RnH.LW{p}(h:RnH p)(hv:qk p=0):LW p (NG p).flatten<=18:=by
 have h1:=qj9 hv h.q.vars;have h2:=h.bits;omega
def RnH.all{p}(h:RnH p)(hv:qk p=0):(jF p.vars).length<=2^18:=by
 have h3:=(VS hv).length_eq;rw[qzk,V3]at h3;rw[<- h3];exact qzc (by omega) (h.LW hv)
def qb8(p)(h:RnH p)(H T):
 qf prog GG 6 [.agg (qA p)] ⟨H,T⟩ (fun r U'=>r=.tup [.int .i64 (jj p).1,.int .i64 (jj p).2]/\KpL [] H U'.H):=by
 refine qCM ⟨false,qpl,[],[]⟩ qe func6 rfl (by kernel_rfl) ?_;have hop:=qea p h.q h.v20 h.bits h.dl h.sl h.wl (H++[.cells (qA p)]) T;obtain⟨res,hres⟩:∃res,res=jj p:=⟨_,rfl⟩;rw[<- hres];unfold jj at hres;simp only[qA]at hop;simp;refine qCQ hop ?_;rintro v ⟨H1,T1⟩ ⟨hk1,hr⟩;have b0:=hk1.2 _ _ lk0 (by simp);have hkH:=qDj.trans hk1;rcases hr with⟨he,rfl⟩|⟨he,s,d,rfl,hS,hL,hLL,hsp,hsR,hso,hsv,hroot⟩
 . rw[if_pos he]at hres;subst hres;simp[he];exact hkH
 rw[if_neg (by simp[he])]at hres;subst hres;subst hsp;have hv:=hsv.vp;have hsc:=hso.c;simp only[spE,qA,qy3,qy2]at hsc
 cases hsm:s.small with
 | true=>
  obtain⟨hd,⟨tok,hdv⟩,hrt⟩:=hsv.dag hsm;obtain⟨c1,c2⟩:=qmE hv hd hrt (hroot hsm);have hb:=qjG s.p h.q h.v20;have hlw:=h.LW hv;rw[<- qj9 hv h.q.vars]at hb;have hc:=qqA hd (n:=LW s.p (NG s.p).flatten) (k:=s.root) (by omega) hrt c1 H1 T1;rw[c2]at hc;rw[hsm,hdv]at hsc;simp only[qA]at hb;generalize qo1 s.p (ql s.p).1=N at *;simp[hsc];rw[qJ rfl];simp[qX,hsc,b0];refine qCO hb (by simp) ?_;simp[qX];refine qCQ (hc.leq (by simp[zs])) ?_;rintro r ⟨H2,T2⟩ ⟨rfl,hk2⟩;simp[qX];exact hkH.trans hk2
 | false=>
  have hen:=qte (s:=s) h.q (fun v hv'=>by have:=zc (ji hv v hv');omega) hsv.rl (fun e he'=>(hsv.rk e he').2) (qzs (h.all hv) (by decide)) hso T1;rw[qh6 hv,hsR]at hen;rw[hsm]at hsc;generalize qo1 s.p (ql s.p).1=N at *;simp[hsc];refine qCQ hen ?_;rintro r ⟨H2,T2⟩ ⟨rfl,hk2⟩;simp;exact hkH.trans hk2
def Ku(p)(h:RnH p):Pure prog GG 6 [.agg (qA p)] (.tup [.int .i64 (jj p).1,.int .i64 (jj p).2]):=by
 refine Pure.ofA (qb8 p h [] []) ?_;rintro v U' ⟨rfl,-⟩;rw[qS (by simp)];exact⟨by simp,qCT _⟩
noncomputable def kH(p:Problem)(gi:Int)(a:List Int):Int×Int:=if(ql p).2≠0 then(0,(ql p).2) else Jb p gi a
def qnc(p)(h:RnH p)(gi){r a H}(ha:AsR r a H)(T):
 qf prog GG 15 [.agg (qA p),.int .i64 gi,r] ⟨H,T⟩ (fun v U'=>v=.tup [.int .i64 (kH p gi a).1,.int .i64 (kH p gi a).2]/\KpL [] H U'.H):=by
 refine qCN qe func15 rfl (by kernel_rfl) ?_;have hop:=qea p h.q h.v20 h.bits h.dl h.sl h.wl (H++[.cells (qA p)]) T;obtain⟨res,hres⟩:∃res,res=kH p gi a:=⟨_,rfl⟩;rw[<- hres];unfold kH at hres;simp only[qA]at hop;simp;refine qCQ hop ?_;rintro v ⟨H1,T1⟩ ⟨hk1,hr⟩;have hkH:=qDj.trans hk1;rcases hr with⟨he,rfl⟩|⟨he,s,d,rfl,hS,hL,hLL,hsp,hsR,hso,hsv,hroot⟩
 . rw[if_pos he]at hres;subst hres;simp[he];exact hkH
 rw[if_neg (by simp[he])]at hres;have hR:SpR p s d:=⟨hsp,hsR,hsv,hroot⟩;have ht:=qct hsv gi hso (ha.keep hkH (by simp)) T1;rw[hR.tot,<- hres]at ht;simp;refine qCQ ht ?_;rintro v ⟨H2,T2⟩ ⟨rfl,hk2⟩;simp;exact hkH.trans hk2
def qqX(p)(h:RnH p)(gi a):Pure prog GG 15 [.agg (qA p),.int .i64 gi,.sl 1 (a.map qq) .none] (.tup [.int .i64 (kH p gi a).1,.int .i64 (kH p gi a).2]):=by
 refine Pure.ofA (qnc p h gi (H:=[]) (.inl ⟨.none,rfl⟩) []) ?_;rintro v U' ⟨rfl,-⟩;rw[qS (by simp)];exact⟨by simp,qCT _⟩
noncomputable def QH(p:Problem)(gi:Int)(a:List Int)(k:Int):List Int×Int :=
 if(kH p gi a).2≠0 then([],(kH p gi a).2) else if k<0\/(kH p gi a).1<=k then([],12) else(ZX p gi.toNat a k,0)
def ChO(o:List Int×Int)(H:List Blk)(v:AV)(U':St):Prop:=KpL [] H U'.H/\∃w b,v=.tup [w,.int .i64 o.2]/\qgD b U'.H w o.1
def qkL(p R fx g c):V6 p R fx g c<=lim:=by
 cases g with
 |nil=>unfold V6 lim;split<;>omega
 | cons i r=>
  unfold V6;split
  . exact yt _ _ _ (qAA _)
  exact qAA _
def qdE{p gi a}(h:(Jb p gi a).2=0):0<=gi/\gi.toNat<(NG p).length/\qK p.vars a=true/\1<=(Jb p gi a).1/\(Jb p gi a).1<lim:=by
 unfold Jb at h⊢;split at h
 . cases h
 rename_i hc;rw[if_neg hc];split at h
 . cases h
 rename_i h0;rw[if_neg h0];split at h
 . cases h
 rename_i h1;rw[if_neg h1];have hle:qgA p (fun _=>none) a gi.toNat<=lim:=qkL _ _ _ _ _;refine⟨?_,?_,?_,?_,?_⟩
 . exact Int.not_lt.1 fun e=>hc (.inl e)
 . have:¬gi<0:=fun e=>hc (.inl e)
   have:¬((NG p).length:Int)<=gi:=fun e=>hc (.inr (.inl e))
   omega
 . cases hA:qK p.vars a with
   |true=>rfl
   |false=>exact absurd (.inr (.inr hA)) hc
 . dsimp only;omega
 dsimp only;omega
def qkb(p)(h:RnH p)(hl12:qk p=0->(NG p).flatten.length<=12)(gi){r a H}(ha:AsR r a H)(k T):
 qf prog GG 16 [.agg (qA p),.int .i64 gi,r,.int .i64 k] ⟨H,T⟩ (ChO (QH p gi a k) H):=by
 refine qCN qe func16 rfl (by kernel_rfl) ?_;have hop:=qea p h.q h.v20 h.bits h.dl h.sl h.wl (H++[.cells (qA p)]) T;obtain⟨res,hres⟩:∃res,res=QH p gi a k:=⟨_,rfl⟩;rw[<- hres];unfold QH at hres;simp only[qA]at hop;simp;refine qCQ hop ?_;rintro v ⟨H1,T1⟩ ⟨hk1,hr⟩;have hkH:=qDj.trans hk1;rcases hr with⟨he,rfl⟩|⟨he,s,d,rfl,hS,hL,hLL,hsp,hsR,hso,hsv,hroot⟩
 . have hto:kH p gi a=(0,(ql p).2):=if_pos he;rw[hto,if_pos he]at hres;subst hres;simp[he];exact⟨hkH,_,0,rfl,.inl ⟨rfl,_,_,rfl⟩⟩
 have hto:kH p gi a=Jb p gi a:=if_neg (by simp[he]);rw[hto]at hres;have hR:SpR p s d:=⟨hsp,hsR,hsv,hroot⟩;have hv:=hsv.vp;rw[hsp]at hv;have ht:=qct hsv gi hso (ha.keep hkH (by simp)) T1;rw[hR.tot]at ht;have hok:=qdE (p:=p) (gi:=gi) (a:=a);have hch:=fun h1 h2 idx=>hR.ch (a:=a) (gi:=gi.toNat) h1 h2 idx
 generalize Jb p gi a=tt at *;obtain⟨n,e⟩:=tt;simp;refine qCQ ht ?_;rintro v ⟨H2,T2⟩ ⟨rfl,hk2⟩;have hkk:=hkH.trans hk2;by_cases he0:e=0
 . subst he0;rw[if_neg (by simp)]at hres;obtain⟨g0,g1,has,n1,n2⟩:=hok rfl;by_cases hk0:k<0
   . rw[if_pos (.inl hk0)]at hres;subst hres;simp[hk0];exact⟨hkk,_,0,rfl,.inl ⟨rfl,_,_,rfl⟩⟩
   by_cases hk1:n<=k
   . rw[if_pos (.inr hk1)]at hres;subst hres;simp[hk0,hk1];exact⟨hkk,_,0,rfl,.inl ⟨rfl,_,_,rfl⟩⟩
   rw[if_neg (fun h=>h.elim hk0 hk1)]at hres;have hc:=qmN hsv (by rw[hsp];exact hl12 hv) (gi:=gi.toNat) (by rwa[hsp]) (r:=r) (a:=a) (by rw[hsp];exact QI hv has) (by rw[hsp];exact(Z3 hv has).1) (hso.keep hk2 (by simp) (by simp) (by simp)) (ha.keep hkk (by simp)) T2 (idx:=k) (by omega) (by unfold lim at n2;omega);rw[hch has g1 k,show((gi.toNat:Nat):Int)=gi by omega]at hc;simp[hk0,hk1];refine qCQ hc ?_;rintro v ⟨H3,T3⟩ ⟨hk3,N,rfl,hN1,hN2⟩;subst hres;simp;refine⟨hkk.trans hk3,_,N,rfl,?_⟩;by_cases hnil:ZX p gi.toNat a k=[]
   . exfalso;have hlen:=congrArg List.length hnil;rw[qdf,(Z3 hv has).1]at hlen;obtain⟨g,hg⟩:∃g,(NG p)[gi.toNat]?=some g:=⟨_,qyH g1⟩;have hg':=qyG hg;have hgn:g≠[]:=by
      obtain⟨g',hg2,rfl⟩:=qza.1 hg';have:=(jW hv).1 g' hg2;simpa using this
     have h1:=qj6 hv
     cases g with
     |nil=>exact hgn rfl
     | cons x g=>
      have hx:x∈(NG p).flatten:=qzl.2 ⟨_,hg',by simp⟩;have h2:=List.length_pos_of_mem hx;have h3:p.vars.length=0:=(by simpa using hlen);omega
   exact .inr ⟨hnil,rfl,hN2⟩
 rw[if_pos he0]at hres;subst hres;simp[he0];exact⟨hkk,_,0,rfl,.inl ⟨rfl,_,_,rfl⟩⟩
def W4(n:Nat)(h:n<9223372036854775808):Pure prog GG 93 [.int .i64 n] (.int .u64 n):=by
 refine qCL qe func93 rfl (by kernel_rfl) ?_;have h1:=wru (n:=n) (by omega) (by omega);simp[show ¬(n:Int)<0 by omega,yS,h1]
def Yo:∀(b a:Nat),a<18446744073709551616->b<18446744073709551616->Pure prog GG 61 [.int .u64 a,.int .u64 b] (.int .u64 (Nat.gcd a b:Nat)):=by
 intro b a ha hb;refine qCL qe func61 rfl (by kernel_rfl) ?_;simp;refine qCR (fun n ev U=>∃x y:Nat,n=y/\x<18446744073709551616/\y<18446744073709551616/\ev 0=.int .u64 x/\ev 1=.int .u64 y/\Nat.gcd x y=Nat.gcd a b) b ⟨a,b,rfl,ha,hb,by simp⟩ ?_;rintro y ev U R hR ⟨x,_,rfl,hx,hy,h0,h1,hg⟩;by_cases hz:y=0
 . subst hz;simp at hg;simp[h0,h1,hg]
 simp[h0,h1,hz];refine hR (x%y) _ _ (qAm _ (by omega)) ⟨y,x%y,rfl,hy,qzw (Nat.mod_le _ _) hx,by simp,by simp[qBm],?_⟩
 rwa[qCf y,<- Nat.gcd_rec,qCf]
def WZ(a b:Nat)(ha:a<9223372036854775808)(hb:b<9223372036854775808):Pure prog GG 48 [.int .i64 a,.int .i64 b] (.agg [.bool false,.int .u64 a,.int .u64 b]):=by
 refine qCL qe func48 rfl (by kernel_rfl) ?_;simp[show ¬(a:Int)<0 by omega,show ¬(b:Int)<0 by omega];refine qCO (W4 a ha) rfl ?_;simp;refine qCO (W4 b hb) rfl ?_;simp
def qgz(a b:Nat)(hb:0<b)(ha:a<18446744073709551616):qu .quo .u64 a b=some (.int .u64 (a/b:Nat)):=by
 have h:¬(b:Int)=0:=by omega
 simp only[qu];rw[if_neg h,qA5 (by omega)];show some (AV.int .u64 (IntKind.u64.wrap (((a/b:Nat):Int))))=_;rw[wru (Int.natCast_nonneg _) (Int.ofNat_lt.2 (qzw (qzI _ _) ha))]
def Zz(n d:Nat)(hn:n<18446744073709551616)(hd:d<18446744073709551616)(h0:0<d):
 Pure prog GG 49 [.agg [.bool false,.int .u64 n,.int .u64 d]] (.agg [.bool false,.int .u64 (n/Nat.gcd n d:Nat),.int .u64 (d/Nat.gcd n d:Nat)]):=by
 refine qCL qe func49 rfl (by kernel_rfl) ?_;have hg:0<Nat.gcd n d:=qzJ _ h0;have h1:=qgz n _ hg hn;have h2:=qgz d _ hg hd;simp[-qu];refine qCO (Yo d n hn hd) rfl ?_;generalize Nat.gcd n d=g at *;simp[-qu,h1,h2]
def V7(n d:Nat):Nat×Nat×Nat:=if n<9223372036854775808/\d<9223372036854775808 then(n,d,0) else(0,0,3)
def qhF(n d:Nat)(hn:n<18446744073709551616)(hd:d<18446744073709551616):
 Pure prog GG 50 [.agg [.bool false,.int .u64 n,.int .u64 d]] (.tup [.agg [.int .i64 (V7 n d).1,.int .i64 (V7 n d).2.1],.int .i64 (V7 n d).2.2]):=by
 refine qCL qe func50 rfl (by kernel_rfl) ?_;unfold V7;by_cases h1:n<9223372036854775808
 . have h1':¬(9223372036854775807:Int)<n:=(by omega);have w1:=wr (n:=n) (by omega) (by omega);by_cases h2:d<9223372036854775808
   . have h2':¬(9223372036854775807:Int)<d:=(by omega);have w2:=wr (n:=d) (by omega) (by omega);simp[h1,h1',h2,h2',yS,w1,w2]
   have h2':(9223372036854775807:Int)<d:=(by omega);simp[h1,h1',h2,h2']
 have h1':(9223372036854775807:Int)<n:=by omega
 simp[h1,h1']
def yp(a b:Nat):Nat×Nat:=(a/Nat.gcd a b,b/Nat.gcd a b)
def qnK(a b:Nat)(ha:a<9223372036854775808)(hb:b<9223372036854775808)(h0:0<b):
 Pure prog GG 24 [.int .i64 a,.int .i64 b] (.tup [.agg [.int .i64 (yp a b).1,.int .i64 (yp a b).2],.int .i64 0]):=by
 refine qCL qe func24 rfl (by kernel_rfl) ?_;have h1:a/Nat.gcd a b<9223372036854775808:=qzw (qzI _ _) ha;have h2:b/Nat.gcd a b<9223372036854775808:=qzw (qzI _ _) hb;have hr:=qhF (a/Nat.gcd a b) (b/Nat.gcd a b) (by omega) (by omega);have hre:=Zz a b (by omega) (by omega) h0;unfold V7 at hr;rw[if_pos ⟨h1,h2⟩]at hr;unfold yp;generalize a/Nat.gcd a b=x at *;generalize b/Nat.gcd a b=y at *;simp[show ¬b=0 by omega];refine qCO (WZ a b ha hb) rfl ?_;simp;refine qCO hre rfl ?_;simp;refine qCO hr rfl ?_;simp
def qiZ(a b c d):VC (Dof prog) 34 [.int .i64 a,.int .i64 b] [.int .i64 c,.int .i64 d]=some ((a==c)&&(b==d)):=by
 simp[VC,Y1,yM,qP,zR,qAc,zY,kc]
def qdz(a b:Nat)(ha:a<9223372036854775808)(hb:b<9223372036854775808)(h0:0<b)(hc:Nat.gcd a b=1):
 Pure prog GG 60 [.agg [.int .i64 a,.int .i64 b]] (.bool true):=by
 refine qCL qe func60 rfl (by kernel_rfl) ?_;have hm:=qnK a b ha hb h0;unfold yp at hm;rw[hc,qCo,qCo]at hm;simp[show ¬(b:Int)<1 by omega];refine qCO hm rfl ?_;simp[qiZ]
def qjD(a b c d:Nat)(ha:a<9223372036854775808)(hb:b<9223372036854775808)(h0:0<b)(hab:Nat.gcd a b=1)(hc:c<9223372036854775808)(hd:d<9223372036854775808)(h1:0<d)(hcd:Nat.gcd c d=1):
 Pure prog GG 29 [.agg [.int .i64 a,.int .i64 b],.agg [.int .i64 c,.int .i64 d]] (.bool true):=by
 refine qCL qe func29 rfl (by kernel_rfl) ?_;simp;refine qCO (qdz a b ha hb h0 hab) rfl ?_;simp;refine qCO (qdz c d hc hd h1 hcd) rfl ?_;simp
def qfK(a b c d:Nat):Nat:=(a/Nat.gcd a d)*(c/Nat.gcd c b)
def qfL(a b c d:Nat):Nat:=(b/Nat.gcd c b)*(d/Nat.gcd a d)
def Jg{a b c d:Nat}(hb:0<b)(hd:0<d)(hab:Nat.gcd a b=1)(hcd:Nat.gcd c d=1):Nat.gcd (qfK a b c d) (qfL a b c d)=1:=by
 have hg:0<Nat.gcd a d:=qzJ _ hd;have hh:0<Nat.gcd c b:=qzJ _ hb;exact Nat.Coprime.mul_left (Nat.Coprime.mul_right (Nat.Coprime.coprime_dvd_left (qBC (qAf a d)) (Nat.Coprime.coprime_dvd_right (qBC (qzQ c b)) hab)) (qA0 hg)) (Nat.Coprime.mul_right (qA0 hh) (Nat.Coprime.coprime_dvd_left (qBC (qAf c b)) (Nat.Coprime.coprime_dvd_right (qBC (qzQ a d)) hcd)))
def yc(a b c d:Nat):Nat×Nat×Nat:=V7 (qfK a b c d) (qfL a b c d)
def qfJ(a b c d:Nat)(ha:a<9223372036854775808)(hb:b<9223372036854775808)(h0:0<b)(hab:Nat.gcd a b=1)(hc:c<9223372036854775808)(hd:d<9223372036854775808)(h1:0<d)(hcd:Nat.gcd c d=1):
 Pure prog GG 52 [.agg [.bool false,.int .u64 a,.int .u64 b],.agg [.bool false,.int .u64 c,.int .u64 d]] (.tup [.agg [.int .i64 (yc a b c d).1,.int .i64 (yc a b c d).2.1],.int .i64 (yc a b c d).2.2]):=by
 refine qCL qe func52 rfl (by kernel_rfl) ?_;have hg:0<Nat.gcd a d:=qzJ _ h1;have hh:0<Nat.gcd c b:=qzJ _ h0;have q1:=qgz a _ hg (by omega);have q2:=qgz c _ hh (by omega);have q3:=qgz b _ hh (by omega);have q4:=qgz d _ hg (by omega);have l1:a/Nat.gcd a d<=a:=qzI _ _;have l2:c/Nat.gcd c b<=c:=qzI _ _;have l3:b/Nat.gcd c b<=b:=qzI _ _;have l4:d/Nat.gcd a d<=d:=qzI _ _;have hcop:=Jg h0 h1 hab hcd;have p3:0<b/Nat.gcd c b:=qAY (qA6 h0 (qzQ _ _)) hh;have p4:0<d/Nat.gcd a d:=qAY (qA6 h1 (qzQ _ _)) hg;have g1:=Yo d a (by omega) (by omega);have g2:=Yo b c (by omega) (by omega);unfold yc;unfold qfK qfL at *;generalize Nat.gcd a d=g at *;generalize Nat.gcd c b=h at *;generalize a/g=A at *;generalize c/h=C at *;generalize b/h=B at *;generalize d/g=D at *;have hD:0<B*D:=qAZ p3 p4;generalize hN:A*C=N at *;generalize hM:B*D=M at *;obtain⟨nh,nl,hn1,hn2⟩:∃nh nl,N=18446744073709551616*nh+nl/\nl<18446744073709551616:=⟨N/18446744073709551616,N%18446744073709551616,by omega,by omega⟩;obtain⟨mh,ml,hm1,hm2⟩:∃mh ml,M=18446744073709551616*mh+ml/\ml<18446744073709551616:=⟨M/18446744073709551616,M%18446744073709551616,by omega,by omega⟩;have m1:=YH A C nh nl (by omega) (by omega) (by rw[hN];exact hn1) hn2;have m2:=YH B D mh ml (by omega) (by omega) (by rw[hM];exact hm1) hm2;simp[-qu];refine qCO g1 (by simp) ?_;simp[-qu];refine qCO g2 (by simp) ?_;simp[-qu,q1,q2];refine qCO m1 (by simp) ?_;simp[-qu,q3,q4];refine qCO m2 (by simp) ?_;by_cases n0:nh=0
 . by_cases n1:mh=0
   . subst n0 n1;have e1:N=nl:=(by omega);have e2:M=ml:=(by omega);subst e1 e2;have hre:=Zz N M hn2 hm2 hD;rw[hcop,qCo,qCo]at hre;have hra:=qhF N M hn2 hm2;generalize V7 N M=rs at *;simp;refine qCO hre (by simp) ?_;simp;refine qCO hra (by simp) ?_;simp
   . have hr:V7 N M=(0,0,3):=(by unfold V7;rw[if_neg (by omega)]);simp[hr,n0,n1]
 have hr:V7 N M=(0,0,3):=by unfold V7;rw[if_neg (by omega)]
 simp[hr,n0]
def qv0(a b c d:Nat)(ha:a<9223372036854775808)(hb:b<9223372036854775808)(h0:0<b)(hab:Nat.gcd a b=1)(hc:c<9223372036854775808)(hd:d<9223372036854775808)(h1:0<d)(hcd:Nat.gcd c d=1):
 Pure prog GG 26 [.agg [.int .i64 a,.int .i64 b],.agg [.int .i64 c,.int .i64 d]] (.tup [.agg [.int .i64 (yc a b c d).1,.int .i64 (yc a b c d).2.1],.int .i64 (yc a b c d).2.2]):=by
 refine qCL qe func26 rfl (by kernel_rfl) ?_;simp;refine qCO (qjD a b c d ha hb h0 hab hc hd h1 hcd) rfl ?_;simp;refine qCO (WZ a b ha hb) rfl ?_;simp;refine qCO (WZ c d hc hd) rfl ?_;simp;refine qCO (qfJ a b c d ha hb h0 hab hc hd h1 hcd) rfl ?_;simp
def qng(p)(h:RnH p)(hl12:qk p=0->(NG p).flatten.length<=12)(gi a k):
 Pure prog GG 16 [.agg (qA p),.int .i64 gi,.sl 1 (a.map qq) .none,.int .i64 k] (.tup [.sl 1 ((QH p gi a k).1.map qq) .none,.int .i64 (QH p gi a k).2]):=by
 refine Pure.ofA (qkb p h hl12 gi (H:=[]) (.inl ⟨.none,rfl⟩) k []) ?_;rintro v U' ⟨_,w,b,rfl,hr⟩;obtain⟨h1,h2,h3⟩:=hr.frz 6;exact Zc h1 h2 h3
def yP(p:Problem)(gi:Nat)(a:List Int):Nat:=((NG p).getD gi []).foldl (fun n i=>sat (n*wtP p i (aN a i))) 1
def qpj:List (Nat×Sch×List Nat):=[(5,.step 0 [12,11] (.step 1 [12,11,10,4,3,2] (.step 2 [12,11,10,4,3] (.step 3 [12,11,10,4] (.step 4 [12,11,10] (.step 5 [12,11,10] (.step 6 [12,11,10,9,8] (.step 7 [12,11,10,9,8] (.step 8 [12,11,10,9] (.step 9 [12,11,10] (.step 10 [12,11] (.step 11 [12] (.step 12 [] (.done))))))))))))),[10])]
def qhJ{s d}(h:SpV s d){gi}(hgi:gi<(NG s.p).length){r a H}(hao:AOk s.p a)(hs:SpOk s H)(ha:AsR r a H)(T):
 qf prog GG 25 [.ptr s.S 0,.int .i64 gi,r] ⟨H,T⟩ (fun v U'=>v=.int .i64 (yP s.p gi a:Nat)/\KpL [] H U'.H):=by
 refine qCM ⟨false,qpj,[],[]⟩ qe func25 rfl (by kernel_rfl) ?_;have hS:=hs.c;have hG:=WJ h.vp;obtain⟨g,hg⟩:∃g,(NG s.p)[gi]?=some g:=⟨_,qyH hgi⟩;have hl:=(qds h.vp h.vq.vars).1 g (qyG hg);simp only[spE,qA,qy3,qy2,hG]at hS;unfold yP;rw[show(NG s.p).getD gi []=g by simp[qyS,hg]];simp[hS,hg,yd];refine qC2 g (fun dn ev U=>ev 0=.ptr s.S 0/\ev 2=r/\ev 7=.int .i64 (dn.foldl (fun n i=>sat (n*wtP s.p i (aN a i))) 1:Nat)/\ev 17=.sl 1 (g.map zD) .none/\ev 18=.int .i64 g.length/\ev 19=.int .i64 dn.length/\KpL [] H U.H) ?_ ?_ ?_
 . exact⟨by simp,by simp,by simp,by simp,by simp,by simp,qDh⟩
 . rintro dn i rest ev ⟨H1,T1⟩ R hR hdl hx hlt ⟨e0,e2,e7,e17,e18,e19,hk⟩;obtain⟨v,l,hv,hw0,hw8,hll,hl20,hwn⟩:=(h.gr fun i hi=>qzl.2 ⟨g,qyG hg,hi⟩) i (qyG hx);obtain⟨x,hax,hxb⟩:=hao i ((fun i hi=>qzl.2 ⟨g,qyG hg,hi⟩) i (qyG hx));have hs1:=hs.keep hk (by simp) (by simp) (by simp);have hS1:=hs1.c;simp only[spE,qA,qy3,qy2,hG]at hS1;obtain⟨u,hu1,hu2⟩:=(ha.keep hk (by simp)).at0 hax;have hdw:=wr (n:=(dn.length:Int)+1) (by omega) (by omega);obtain⟨o,ho⟩:∃o,(jd s.p.vars.length s.p.dists)[i]?=some o:=⟨_,qyH (by rw[yq];exact(qyF.1 hv).1)⟩;have hweigh:=WL s.p hs1.w ho (fun w hw=>hwn w (by rw[ho,hw])) (x:Int) T1;rw[<- show wtP s.p i x=wtO o (x:Int) by simp[wtP,qyS,ho]]at hweigh;have hwle:=qdt s.p i x;have haN:aN a i=x:=(by unfold aN;rw[qyS,hax];simp);have hsnoc:(dn++[i]).foldl (fun n i=>sat (n*wtP s.p i (aN a i))) 1=sat (dn.foldl (fun n i=>sat (n*wtP s.p i (aN a i))) 1*wtP s.p i x):=(by rw[qz5,<- haN];rfl);have hacc:dn.foldl (fun n i=>sat (n*wtP s.p i (aN a i))) 1<=lim:=by
    have:∀(l:List Nat) (n:Nat),n<=lim->l.foldl (fun n i=>sat (n*wtP s.p i (aN a i))) n<=lim:=by
     intro l
     induction l with
     |nil=>intro n hn;exact hn
     |cons y l ih=>intro n hn;rw[qzm];exact ih _ (Yg _)
    exact this dn 1 (by decide)
   generalize dn.foldl (fun n i=>sat (n*wtP s.p i (aN a i))) 1=acc at *;generalize wtP s.p i x=wx at *;have ht:=WU acc wx hacc hwle;simp[-zr,-yQ,e17,e18,e19,show(dn.length:Int)<g.length by omega,show zr (Dof prog) 35 (.sl 1 (g.map zD) .none) (.int .i64 (dn.length:Nat))=some (.rptr [.int .i64 i]) by simp[-getElem?_pos,hx,zD],show ∀U,yQ (Dof prog) U 3 (.rptr [.int .i64 (i:Int)])=some (.int .i64 i) from fun U=>by simp];rw[qJ rfl];simp[-zr,-yQ,qX,show yQ (Dof prog) ⟨H1,T1⟩ 55 (.ptr s.S 10)=some (.fn 76 [] [.ptr s.L 0]) by simp[-getElem?_pos,hS1],e0,e2,e7,hu1,hu2];refine qCQ hweigh ?_;rintro w U ⟨rfl,rfl⟩;simp;refine qCO ht rfl ?_;simp[e19,hdw];exact hR _ _ ⟨by simp[e0],by simp[e2],by simp[hsnoc],by simp[e17],by simp[e18],by simp,hk⟩
 rintro ev ⟨H1,T1⟩ ⟨e0,e2,e7,e17,e18,e19,hk⟩;simp[e7,e18,e19];exact hk
noncomputable def vD(p:Problem)(a:List Int):List Nat->Nat->Nat->Nat×Nat×Int
 |[],n,d=>(n,d,0)
 | gi::rest,n,d=>
  if(Jb p gi a).2≠0 then(0,0,(Jb p gi a).2)
  else if(yc n d (yp (yP p gi a) (Jb p gi a).1.toNat).1 (yp (yP p gi a) (Jb p gi a).1.toNat).2).2.2≠0 then(0,0,3)
  else vD p a rest (yc n d (yp (yP p gi a) (Jb p gi a).1.toNat).1 (yp (yP p gi a) (Jb p gi a).1.toNat).2).1 (yc n d (yp (yP p gi a) (Jb p gi a).1.toNat).1 (yp (yP p gi a) (Jb p gi a).1.toNat).2).2.1
noncomputable def ka(p:Problem)(a:List Int):Nat×Nat×Int :=
 if(ql p).2≠0 then(0,0,(ql p).2) else if qK p.vars a=false then(0,0,1) else if(ql p).1.all (jw p a)=false then(0,1,0)
 else vD p a (List.range (NG p).length) 1 1
structure FrOk(n d):Prop where
 nl:n<9223372036854775808
 dl:d<9223372036854775808
 pos:0<d
 cop:Nat.gcd n d=1
def qid{a b}(ha:a<9223372036854775808)(hb:b<9223372036854775808)(h0:0<b):FrOk (yp a b).1 (yp a b).2:=by
 have hg:0<Nat.gcd a b:=qzJ _ h0;exact⟨qzw (qzI _ _) ha,qzw (qzI _ _) hb,qAY (qA6 h0 (qzQ _ _)) hg,qA0 hg⟩
def qnJ{a b c d}(h:FrOk a b)(g:FrOk c d)(he:(yc a b c d).2.2=0):FrOk (yc a b c d).1 (yc a b c d).2.1:=by
 have hc:=Jg h.pos g.pos h.cop g.cop;unfold yc V7 at *;split at he
 . rename_i hlt;rw[if_pos hlt];exact⟨hlt.1,hlt.2,(qAZ (qAY (qA6 h.pos (qzQ _ _)) (qzJ _ h.pos)) (qAY (qA6 g.pos (qzQ _ _)) (qzJ _ g.pos))),hc⟩
 cases he
def qvZ(a b c d):(yc a b c d).2.2≠0->(yc a b c d).2.2=3:=by
 unfold yc V7;split<;>simp
def qkY(p gi a):yP p gi a<=lim:=by
 have:∀(l:List Nat) (n:Nat),n<=lim->l.foldl (fun n i=>sat (n*wtP p i (aN a i))) n<=lim:=by
  intro l
  induction l with
  |nil=>intro n hn;exact hn
  |cons y l ih=>intro n hn;rw[qzm];exact ih _ (Yg _)
 exact this _ 1 (by decide)
def PrQ(o:Nat×Nat×Int)(H:List Blk)(v:AV)(U':St):Prop:=v=.tup [.agg [.int .i64 (o.1:Nat),.int .i64 (o.2.1:Nat)],.int .i64 o.2.2]/\KpL [] H U'.H
def qqZ(p)(h:RnH p)(a)(haf:Fits a)(H T):
 qf prog GG 8 [.agg (qA p),.sl 1 (a.map qq) .none] ⟨H,T⟩ (PrQ (ka p a) H):=by
 refine qCN qe func8 rfl (by kernel_rfl) ?_;have hop:=qea p h.q h.v20 h.bits h.dl h.sl h.wl (H++[.cells (qA p),.cells [.int .i64 0,.int .i64 0]]) T;obtain⟨res,hres⟩:∃res,res=ka p a:=⟨_,rfl⟩;rw[<- hres];unfold ka at hres;simp only[qA]at hop;simp;refine qCQ hop ?_;rintro v ⟨H1,T1⟩ ⟨hk1,hr⟩;dsimp only at hk1;have b0:=hk1.2 _ _ lk0 (by simp);have b1:=hk1.2 _ _ lk1 (by simp);have b1l:=(qyF.1 b1).1;have hkH:=qDj.trans hk1
 -- what is returned
 have out:∀(H2:List Blk) (T2:List (Option Nat)) (n d:Nat) (e:Int),res=(n,d,e)->KpL [] H H2->PrQ res H (.tup [.agg [.int .i64 n,.int .i64 d],.int .i64 e]) ⟨H2.set (H.length+1) (.cells [.int .i64 n,.int .i64 d]),T2⟩:=fun H2 T2 n d e he hk=>by
  rw[he];exact⟨rfl,hk.setF (by omega)⟩
 rcases hr with⟨he,rfl⟩|⟨he,s,d,rfl,hS,hL,hLL,hsp,hsR,hso,hsv,hroot⟩
 . rw[if_pos he]at hres;simp[-getElem?_pos,he,b1,b1l];exact out _ _ 0 0 _ hres hkH
 rw[if_neg (by simp[he])]at hres;have hR:SpR p s d:=⟨hsp,hsR,hsv,hroot⟩;have hw:∀v∈s.p.vars,0<=v.width/\v.width<=8:=fun v hv=>by have:=zc (ji hsv.vp v hv);omega
 have has:=qbY hso hw hsv.vq.vars (r:=.sl 1 (a.map qq) .none) (a:=a) (.inl ⟨.none,rfl⟩) T1;have hv:=hsv.vp;rw[hsp]at has hv;simp;refine qCQ has ?_;rintro v ⟨H2,T2⟩ ⟨rfl,hk2⟩;dsimp only at hk2;have hkH2:=hkH.trans hk2;have b1':=hk2.2 _ _ b1 (by simp);have b1l':=(qyF.1 b1').1
 cases hA:qK p.vars a with
 | false=>
  rw[if_pos hA]at hres;simp[-getElem?_pos,b1',b1l',unA];exact out _ _ 0 0 _ hres hkH2
 | true=>
  rw[if_neg (by simp[hA])]at hres;have hso2:=hso.keep hk2 (by simp) (by simp) (by simp);have hsl:=qdR (s:=s) (hsp▸h.q) hso2 hsv.rl (r:=.sl 1 (a.map qq) .none) haf rfl (fun H' _=>by rw[qS (by simp)];exact qCT _) (fun e he'=>(hsv.rk e he').2) T2;rw[hsR,hsp]at hsl;simp[unA];refine qCQ hsl ?_;rintro v ⟨H3,T3⟩ ⟨rfl,hk3⟩;dsimp only at hk3;have hkH3:=hkH2.trans hk3;have c1:=hk3.2 _ _ b1' (by simp);have c1l:=(qyF.1 c1).1
  cases hB:(ql p).1.all (jw p a) with
  | false=>
   rw[if_pos hB]at hres;simp[-getElem?_pos,c1,c1l,unA];exact out _ _ 0 1 _ hres hkH3
  | true=>
   rw[if_neg (by simp[hB])]at hres;have c0:=hk3.2 _ _ (hk2.2 _ _ b0 (by simp)) (by simp);have hG:=WJ hv;have hng:=qds hv h.q.vars;simp only[hG]at c0;have c0':=qa c0;simp[unA,c0'];refine yF (NG p).length (fun k ev U=>ev 1=.sl 1 (a.map qq) .none/\ev 4=.ptr (H.length+1) 0/\ev 6=.ptr s.S 0/\ev 8=.ptr H3.length 0/\ev 38=.int .i64 (NG p).length/\ev 39=.int .i64 k/\KpL [] H U.H/\SpOk s U.H/\U.H[H.length+1]?=some (.cells [.int .i64 0,.int .i64 0]) /\
    ∃n d:Nat,U.H[H3.length]?=some (.cells [.int .i64 n,.int .i64 d])/\FrOk n d/\res=vD p a (List.range' k ((NG p).length-k)) n d) ?_ ?_ ?_
   . exact⟨by simp,by simp,by simp,by simp,by simp,by simp,hkH3.trans qDj,hso2.keep (hk3.trans qDj) (by simp) (by simp) (by simp),qa c1 _,1,1,lk0,⟨by decide,by decide,by decide,by decide⟩,by rw[hres,qAB];simp⟩
   . rintro k ev ⟨H4,T4⟩ R hR' hkn ⟨e1,e4,e6,e8,e38,e39,hk4,hso4,d1,n,dd,d8,hfr,hpr⟩;dsimp only at hk4 hso4 d1 d8;have hwk:=wr (n:=(k:Int)+1) (by omega) (by omega);have hrg:List.range' k ((NG p).length-k)=k::List.range' (k+1) ((NG p).length-(k+1)):=by
      obtain⟨m,hm⟩:∃m,(NG p).length-k=m+1:=⟨(NG p).length-k-1,by omega⟩;rw[hm,qAI,show(NG p).length-(k+1)=m by omega]
     rw[hrg]at hpr;unfold vD at hpr;have ht:=qct hsv (k:Int) hso4 (r:=.sl 1 (a.map qq) .none) (a:=a) (.inl ⟨.none,rfl⟩) T4;rw[hR.tot]at ht;have hok:=qdE (p:=p) (gi:=(k:Int)) (a:=a);have hpl:=qkY p k a;rw[qzt]at hok;have hpd:=fun H T (hs:SpOk s H)=>qhJ hsv (gi:=k) (by rwa[hsp]) (r:=.sl 1 (a.map qq) .none) (a:=a) (by rw[hsp];exact QI hv hA) hs (.inl ⟨.none,rfl⟩) T
     rw[hsp]at hpd;generalize yP p k a=pr at *;generalize Jb p (k:Int) a=tt at *;obtain⟨t,e⟩:=tt;dsimp only at hpr ht hok;simp[e1,e6,e38,e39,show(k:Int)<(NG p).length by omega];refine qCQ ht ?_;rintro v ⟨H5,T5⟩ ⟨rfl,hk5⟩;dsimp only at hk5;have f1:=hk5.2 _ _ d1 (by simp);have f1l:=(qyF.1 f1).1;by_cases he0:e=0
     case neg=>
      rw[if_pos he0]at hpr;simp[-getElem?_pos,e1,e4,e6,he0,f1,f1l];exact out _ _ 0 0 _ hpr (hk4.trans hk5)
     subst he0;rw[if_neg (by simp)]at hpr;obtain⟨g0,g1,-,n1,n2⟩:=hok rfl;obtain⟨t,rfl⟩:=qzg (by omega:0<=t);rw[qzt]at hpr;unfold lim at n2 hpl;have hso5:=hso4.keep hk5 (by simp) (by simp) (by simp);have hmk:=qnK pr t (by omega) (by omega) (by omega);have hmf:=qid (a:=pr) (b:=t) (by omega) (by omega) (by omega);generalize yp pr t=mk at *;obtain⟨x,y⟩:=mk;dsimp only at hpr hmk hmf;have hml:=qv0 n dd x y hfr.nl hfr.dl hfr.pos hfr.cop hmf.nl hmf.dl hmf.pos hmf.cop;have hmo:=qnJ hfr hmf;have hme:=qvZ n dd x y;generalize yc n dd x y=mm at *;obtain⟨u,w,z⟩:=mm;dsimp only at hpr hml hmo hme;simp[e1,e6,e39];refine qCQ (hpd _ _ hso5) ?_;rintro v ⟨H6,T6⟩ ⟨rfl,hk6⟩;dsimp only at hk6;have hkk6:=(hk4.trans hk5).trans hk6;have g1':=hk6.2 _ _ f1 (by simp);have g8:=hk6.2 _ _ (hk5.2 _ _ d8 (by simp)) (by simp);have g1l:=(qyF.1 g1').1;have g8l:=(qyF.1 g8).1;have g8a:=qa g8;have g1a:=qa g1';simp[e39];refine qCO hmk rfl ?_;simp[e8,g8a];refine qCO hml rfl ?_;have hne:H3.length≠H.length+1:=(by have:=hk3.1;omega);have q1:∀X Y,((H6++[X]).set H3.length Y)[H.length+1]?=some (.cells [.int .i64 0,.int .i64 0]):=fun X Y=>by rw[qyI hne];exact g1a _
     have hl3:∀X:Blk,H3.length<(H6++[X]).length:=fun X=>by simp;omega
     have hl1:∀X:Blk,H.length+1<(H6++[X]).length:=fun X=>by simp;omega
     have hkx:∀X Y,KpL [] H ((H6++[X]).set H3.length Y):=fun X Y=>KpL.setF (hkk6.trans qDj) (by have:=hkH3.1;omega)
     by_cases hz:z=0
     . subst hz;rw[if_neg (by simp)]at hpr;simp[e8,e39,g8a,hwk];have hlt3:=(hso2.keep hk3 (by simp) (by simp) (by simp)).lt;have hso7:SpOk s ((H6++[Blk.cells [.int .i64 x,.int .i64 y]]).set H3.length (Blk.cells [.int .i64 u,.int .i64 w])):=hso5.keep (bs:=[H3.length]) (qDi (hk6.sub (by simp)) (qDi qDj (qDk (by simp)))) (by simp;omega) (by simp;omega) (by simp;omega);exact hR' _ _ ⟨by simp[e1],by simp[e4],by simp[e6],by simp[e8],by simp[e38],by simp,hkx _ _,hso7,q1 _ _,u,w,qyL (hl3 _),hmo rfl,hpr⟩
     rw[if_pos hz]at hpr;have:=hme hz;subst this;have q2:∀X Y Z,(((H6++[X]).set H3.length Y).set (H.length+1) Z)[H.length+1]?=some Z:=fun X Y Z=>qyL (by rw[qzZ];exact hl1 X)
     simp[e4,e8,g8a,q1,q2];exact out _ _ 0 0 _ hpr (hkx _ _)
   rintro ev ⟨H4,T4⟩ ⟨e1,e4,e6,e8,e38,e39,hk4,hso4,d1,n,dd,d8,hfr,hpr⟩;dsimp only at hk4 hso4 d1 d8;have d1l:=(qyF.1 d1).1;have:res=(n,dd,0):=by rw[hpr,qzU];rfl
   simp[-getElem?_pos,e4,e8,e38,e39,d8,d1,d1l];exact out _ _ _ _ _ this hk4
def qj4(p)(h:RnH p)(a)(haf:Fits a):Pure prog GG 8 [.agg (qA p),.sl 1 (a.map qq) .none] (.tup [.agg [.int .i64 ((ka p a).1:Nat),.int .i64 ((ka p a).2.1:Nat)],.int .i64 (ka p a).2.2]):=by
 refine Pure.ofA (qqZ p h a haf [] []) ?_;rintro v U' ⟨rfl,-⟩;rw[qS (by simp)];exact⟨by simp,qCT _⟩
def wP:Ex:=.mk 17 0 [] [wY [97],wY [98]]
def p2(b:Bool):Problem:={vars:=[⟨[97],2,1,0⟩,⟨[98],2,1,0⟩],hard:=[wP],soft:=[],dists:=[],groups:=if b then [[0],[1]] else [[0,1]]}
def WR(b):qk (p2 b)=0:=by
 have hv:kq [97]=true:=by unfold kq;rw[show zQ [97]=true by kernel_rfl];rfl
 have hv2:kq [98]=true:=by unfold kq;rw[show zQ [98]=true by kernel_rfl];rfl
 have hE:jK ⟨[97],2,1,0⟩=0:=by
  unfold jK;rw[hv];simp
 have hE2:jK ⟨[98],2,1,0⟩=0:=by
  unfold jK;rw[hv2];simp
 have hg:jR (p2 b).vars (p2 b).groups:=by
  cases b
  . refine⟨by simp[p2],by simp[p2,yo],by simp[p2],fun i hi _=>?_⟩;simp[p2]at hi⊢;omega
  refine⟨by simp[p2],by simp[p2,yo],by simp[p2],fun i hi _=>?_⟩;simp[p2]at hi⊢;omega
 unfold qk;have h1:zW (p2 b).vars=0:=by
  unfold zW;simp[p2,qO,hE,hE2,qn8,vO,vK,Kv,show kj [97]=none from YE (by decide),show kj [98]=none from YE (by decide),j5];intro x hx;have:x=0\/x=1:=by omega
  rcases this with rfl|rfl<;>rfl
 have h3:qO (zi (p2 b).vars) ((p2 b).hard++(p2 b).soft)=0:=by
  show qO (zi (p2 b).vars) [wP]=0;simp[qO,show zi (p2 b).vars wP=0 by kernel_rfl]
 rw[h1,h3];unfold zy;rw[if_pos hg];simp[p2,qO,yi]
def wH(b):ql (p2 b)=([wP],0):=by
 have:=qfF (WR b) rfl rfl (by cases b<;>kernel_rfl);exact this
def qr1:jj (p2 true)=(6,0):=by
 unfold jj;rw[wH]
 kernel_rfl
def qrT:kH (p2 true) 1 [0,0]=(3,0):=by
 unfold kH;rw[qnj,wH]
 kernel_rfl
def qtq:QH (p2 false) 0 [0,0] 5=([2,3],0):=by
 unfold QH kH;rw[qnj,qjt,wH]
 kernel_rfl
def qew{b a}(h:yu (ki (p2 b).vars a) wP≠0)(ha:qK (p2 b).vars a=true):([wP]:List Ex).all (jw (p2 b) a)=true:=by
 simp only[qAh,qCC,qAG];exact Vz (WR b) h ha
def qcG{p R}(h:(ql p).1=R)(a gi rest n d):vD p a (gi::rest) n d =
 if(Jr p R gi a).2≠0 then(0,0,(Jr p R gi a).2)
 else if(yc n d (yp (yP p gi a) (Jr p R gi a).1.toNat).1 (yp (yP p gi a) (Jr p R gi a).1.toNat).2).2.2≠0 then(0,0,3)
 else vD p a rest (yc n d (yp (yP p gi a) (Jr p R gi a).1.toNat).1 (yp (yP p gi a) (Jr p R gi a).1.toNat).2).1 (yc n d (yp (yP p gi a) (Jr p R gi a).1.toNat).1 (yp (yP p gi a) (Jr p R gi a).1.toNat).2).2.1:=by
 subst h;rfl
def qpg:ka (p2 true) [0,1]=(1,9,0):=by
 have hr:(ql (p2 true)).1=[wP]:=by rw[wH]
 unfold ka;rw[wH,if_neg (by simp),if_neg (by rw[show qK (p2 true).vars [0,1]=true by kernel_rfl];simp),if_neg (by rw[qew (by rw[show yu (ki (p2 true).vars [0,1]) wP=1 by kernel_rfl];decide) (by kernel_rfl)];simp)];show vD (p2 true) [0,1] [0,1] 1 1=_;rw[qcG hr,show Jr (p2 true) [wP] ((0:Nat):Int) [0,1]=(3,0) by kernel_rfl,if_neg (by simp),show((3:Int),(0:Int)).1.toNat=3 from rfl,show yc 1 1 (yp (yP (p2 true) 0 [0,1]) 3).1 (yp (yP (p2 true) 0 [0,1]) 3).2=(1,3,0) by kernel_rfl,if_neg (by simp),qcG hr,show Jr (p2 true) [wP] ((1:Nat):Int) [0,1]=(3,0) by kernel_rfl,if_neg (by simp),show((3:Int),(0:Int)).1.toNat=3 from rfl,show yc 1 3 (yp (yP (p2 true) 1 [0,1]) 3).1 (yp (yP (p2 true) 1 [0,1]) 3).2=(1,9,0) by kernel_rfl,if_neg (by simp)];rfl
def qk0:ka (p2 false) [2,3]=(1,6,0):=by
 have h1:Jr (p2 false) [wP] ((0:Nat):Int) [2,3]=(6,0):=by kernel_rfl
 have hr:(ql (p2 false)).1=[wP]:=by rw[wH]
 have m1:yc 1 1 (yp (yP (p2 false) 0 [2,3]) 6).1 (yp (yP (p2 false) 0 [2,3]) 6).2=(1,6,0):=by kernel_rfl
 unfold ka;rw[wH,if_neg (by simp),if_neg (by rw[show qK (p2 false).vars [2,3]=true by kernel_rfl];simp),if_neg (by rw[qew (by rw[show yu (ki (p2 false).vars [2,3]) wP=1 by kernel_rfl];decide) (by kernel_rfl)];simp)];show vD (p2 false) [2,3] [0] 1 1=_;rw[qcG hr,h1,if_neg (by simp),show((6:Int),(0:Int)).1.toNat=6 from rfl,m1,if_neg (by simp)];rfl
def qnD(b):Pure prog GG 14 [.bool b] (.agg (qA (p2 b))):=by
 refine qCK o0 false qe func14 rfl (by kernel_rfl) ?_;cases b
 . simp[zp,zS,qG,qj,qs];simp[p2,wP,wY,qt,yj,zq,Leq,qD,zJ,qq,AV.atom]
 simp[zp,zS,qG,qj,qs];simp[p2,wP,wY,qt,yj,zq,Leq,qD,zJ,qq,AV.atom]
def qaS(b):RnH (p2 b):=by
 refine⟨⟨by simp[p2],by simp[p2,Fits],by simp[p2],by simp[p2],?_,by simp[p2,Fits],by simp[p2],by cases b<;>simp[p2,Fits],by cases b<;>simp[p2,Fits]⟩,by simp[p2],?_,by simp[p2],by simp[p2],by simp[p2]⟩
 . intro e he;have:e=wP:=by simpa[p2] using he
   subst this;refine⟨?_,?_,?_⟩
   . intro x hx;have:x=wP\/x=wY [97]\/x=wY [98]:=by simpa[wP,pre,kK,wY] using hx
     rcases this with rfl|rfl|rfl<;>simp[wP,wY,Fits,Ex.args,Ex.name]
   . decide
   decide
 unfold qB;rw[if_neg (by simp[WR])];cases b<;>decide
def qow:Pure prog GG 5 [] (.bool true):=by
 refine qCL qe func5 rfl (by kernel_rfl) ?_;have hl:∀b,qk (p2 b)=0->(NG (p2 b)).flatten.length<=12:=fun b _=>by cases b<;>decide
 have h1:=Ku (p2 true) (qaS true);have h2:=qqX (p2 true) (qaS true) 1 [0,0];have h3:=qj4 (p2 true) (qaS true) [0,1] (by simp[Fits]);have h4:=qj4 (p2 false) (qaS false) [2,3] (by simp[Fits]);have h5:=qng (p2 false) (qaS false) (hl false) 0 [0,0] 5;rw[qr1]at h1;rw[qrT]at h2;rw[qpg]at h3;rw[qk0]at h4;rw[qtq]at h5;have q1:=qnD true;have q2:=qnD false;simp only[qA,qyR,qzj,qq]at h1 h2 h3 h4 h5 q1 q2;simp;refine qCO q1 rfl ?_;simp;refine qCO h1 rfl ?_;simp;refine qCO q1 rfl ?_;simp[qj,qs];refine qc.less h2 (by simp) (by simp[zq,Leq]) ?_;simp;refine qCO q1 rfl ?_;simp[qj,qs];refine qc.less h3 (by simp) (by simp[zq,Leq]) ?_;simp;refine qCO q2 rfl ?_;simp[qj,qs];refine qc.less h4 (by simp) (by simp[zq,Leq]) ?_;simp;refine qCO q2 rfl ?_;simp[qj,qs];refine qc.less h5 (by simp) (by simp[zq,Leq]) ?_;simp[qiZ]
noncomputable def qml(p:Problem)(b:Int):Bool:=jA p&&decide (ku p.vars (qB p)<=b)
noncomputable def K4(p:Problem)(b:Int):Bool:=qml p b&&decide (qk p=0)
def qwG(p)(h:VM p)(b):Pure prog GG 12 [.agg (qA p),.int .i64 b] (.bool (qml p b)):=by
 refine qCL qe func12 rfl (by kernel_rfl) ?_;have hs:=qo2 p h.h.exprs;obtain⟨res,hres⟩:∃res,res=qml p b:=⟨_,rfl⟩;rw[<- hres];unfold qml at hres;simp only[qA]at hs;simp;refine qCO hs (by simp) ?_
 cases hsm:jA p with
 | false=>
  rw[hsm,qAD]at hres;subst hres;simp
 | true=>
  have hb:=qtt p (h.h.small hsm);rw[hsm,qzN]at hres;simp only[qA]at hb;simp;refine qCO hb (by simp) ?_;simp;exact hres.symm
def qo0(p)(h:VM p)(b):Pure prog GG 4 [.agg (qA p),.int .i64 b] (.bool (K4 p b)):=by
 refine qCL qe func4 rfl (by kernel_rfl) ?_;have hs:=qwG p h b;obtain⟨res,hres⟩:∃res,res=K4 p b:=⟨_,rfl⟩;rw[<- hres];unfold K4 at hres;simp only[qA]at hs;simp;refine qCO hs (by simp) ?_
 cases hsm:qml p b with
 | false=>
  rw[hsm,qAD]at hres;subst hres;simp
 | true=>
  have hsm':jA p=true:=by
   unfold qml at hsm;simp only[qyJ]at hsm;exact hsm.1
  have hb:=qoM p (h.h.small hsm');rw[hsm,qzN]at hres;simp only[qA]at hb;simp;refine qCO hb (by simp) ?_;simp;rw[hres];rfl
def qqk{p}(h:VM p){b}(hb:b<=18)(hf:qml p b=true):RnH p/\VP p:=by
 unfold qml at hf;simp only[qyJ,decide_eq_true_eq]at hf;have hvp:=h.h.small hf.1;have hs:=hf.1;simp only[jA,qyJ,qz4,qBS,decide_eq_false_iff_not,qyP,decide_eq_true_eq]at hs;obtain⟨⟨⟨⟨⟨⟨⟨⟨a1,a2⟩,a3⟩,a4⟩,a5⟩,b1⟩,b2⟩,b3⟩,b4⟩:=hs;exact⟨⟨hvp.q,by omega,by omega,by omega,by omega,fun d hd=>by have:=b3 d hd;omega⟩,hvp⟩
def qhn{p}(h:VM p){b}(hb:b<=18)(hf:K4 p b=true):RnH p/\VP p/\qk p=0/\ku p.vars (qB p)<=b:=by
 unfold K4 at hf;simp only[qyJ,decide_eq_true_eq]at hf;have h1:=qqk h hb hf.1;have h2:=hf.1;unfold qml at h2;simp only[qyJ,decide_eq_true_eq]at h2;exact⟨h1.1,h1.2,hf.2,h2.2⟩
def qkj(x y:Int):Int:=IntKind.i64.wrap ((BitVec.ofInt IntKind.i64.bits x &&& BitVec.ofInt IntKind.i64.bits y).toNat:Int)
def Va(x y):qu .and .i64 x y=some (.int .i64 (qkj x y)):=rfl
def qqO(n):0<=qkj n 15:=by
 have e:((BitVec.ofInt 64 n &&& 15#64).toNat:Int)=n%16:=by
  rw[BitVec.toNat_and,BitVec.toNat_ofInt];have e:(15#64).toNat=2^4-1:=by decide
  rw[e,qAp];omega
 have h:qkj n 15=IntKind.i64.wrap ((BitVec.ofInt 64 n &&& 15#64).toNat:Int):=rfl;rw[h,e,wr (by omega) (by omega)];omega
def qkh(v:Var)(n:Int):Int:=if v.mode=0 then v.value else qkj n (IntKind.i64.wrap (IntKind.i64.wrap (1*2^(min (qkj v.width 15).toNat IntKind.i64.bits))-1))
def Wz:List Var->List Int->List Int
 |[],_=>[]
 |v::r,[]=>qkh v 0::Wz r []
 |v::r,x::xs=>qkh v x::Wz r xs
def Vv:∀(l) (xs),(Wz l xs).length=l.length
 |[],_=>by simp[Wz]
 |v::r,[]=>by simp[Wz,Vv r []]
 |v::r,x::xs=>by simp[Wz,Vv r xs]
def Vw:∀{l:List Var}{xs:List Int}{i:Nat}{v:Var},l[i]?=some v->(Wz l xs)[i]?=some (qkh v ((xs[i]?).getD 0))
 |v::r,[],0,w,h=>by simp at h;simp[Wz,h]
 |v::r,x::xs,0,w,h=>by simp at h;simp[Wz,h]
 | v::r,[],i+1,w,h=>by
  have:=Vw (l:=r) (xs:=[]) (i:=i) (v:=w) (by simpa using h);simpa[Wz] using this
 | v::r,x::xs,i+1,w,h=>by
  have:=Vw (l:=r) (xs:=xs) (i:=i) (v:=w) (by simpa using h);simpa[Wz] using this
def qiV(p xs){i v}(h:p[i]?=some v):(Wz p xs).take (i+1)=(Wz p xs).take i++[qkh v ((xs[i]?).getD 0)]:=by
 rw[qzb,Vw h];rfl
def qww(p xs)(hl:p.vars.length<=1000)(ha:Fits xs):Pure prog GG 7 [.agg (qA p),.sl 1 (xs.map qq) .none] (.sl 1 ((Wz p.vars xs).map qq) .none):=by
 refine qCL qe func7 rfl (by kernel_rfl) ?_;have hlen:=Vv p.vars xs;simp;refine qQ.list p.vars (fun d ev U=>ev 1=.sl 1 (xs.map qq) .none/\ev 2=.ptr 0 0/\ev 5=qcK 1 qq 0 ((Wz p.vars xs).take d.length)/\ev 6=.int .i64 d.length/\∃u,U=⟨.cells (qA p)::u,ZA [] ((Wz p.vars xs).take d.length)⟩) ?_ ?_ ?_
 . simp[qA]
 . rintro d v rest ev U hd hx hlt ⟨e1,e2,e5,e6,u,rfl⟩;have hlt':(d.length:Int)<p.vars.length:=(by omega);have hw:=wr (n:=(d.length:Int)+1) (by omega) (by omega);have hsn:=qiV p.vars xs hx;have htl:((Wz p.vars xs).take d.length).length<2^30:=(by simp;omega);have h15:=qqO v.width;have h15':¬qkj v.width 15<0:=(by omega);have happ:∀(H:List Blk) (s:List Int),s.length<2^30->∀n,qL (Dof prog) ⟨H,ZA [] s⟩ 35 (qcK 1 qq 0 s) (.sl 1 [[.int .i64 n]] .tight)=some (qcK 1 qq 0 (s++[n]),⟨H,ZA [] (s++[n])⟩):=fun H s hs n=>
    Km (D:=Dof prog) (sz:=1) (T:=[]) (H:=H) (m:=[n]) (en:=qq) D35 rfl D3 rfl (by decide) rfl (by decide) (by simp only[qzd];omega) 1 (.inl rfl)
   generalize (Wz p.vars xs).take d.length=S at *;rw[qyK,qzd,hsn];generalize hX:(xs[d.length]?).getD 0=X at *;have hm1:¬v.mode=0->qkj X (IntKind.i64.wrap (IntKind.i64.wrap (2^(min (qkj v.width 15).toNat IntKind.i64.bits))-1))=qkh v X:=fun h=>by unfold qkh;rw[if_neg h,Int.one_mul]
   have hm0:v.mode=0->v.value=qkh v X:=fun h=>by unfold qkh;rw[if_pos h]
   by_cases hxl:d.length<xs.length
   . have hgx:xs[d.length]?=some X:=by
      rw[qyH hxl]at hX⊢;simpa using hX
     have hxl':(d.length:Int)<xs.length:=(by omega);by_cases hm:v.mode=0
     . simp[e1,e2,e5,e6,hlt',hx,hxl',hgx,hm,qj,qs,happ _ _ htl,hw,qA];rw[hm0 hm];exact⟨rfl,rfl⟩
     simp[-qu,Va,YA,Jh,Wi,Wj,e1,e2,e5,e6,hlt',hx,hxl',hgx,hm,qj,qs,happ _ _ htl,hw,qA,h15'];rw[hm1 hm];exact⟨rfl,rfl⟩
   have hxl':¬(d.length:Int)<xs.length:=(by omega);have hX0:X=0:=by
    rw[qy6 (by omega)]at hX;exact hX.symm
   subst hX0;by_cases hm:v.mode=0
   . simp[e1,e2,e5,e6,hlt',hx,hxl',hm,qj,qs,happ _ _ htl,hw,qA];rw[hm0 hm];exact⟨rfl,rfl⟩
   simp[-qu,Va,YA,Jh,Wi,Wj,e1,e2,e5,e6,hlt',hx,hxl',hm,qj,qs,happ _ _ htl,hw,qA,h15'];rw[hm1 hm];exact⟨rfl,rfl⟩
 rintro ev U ⟨e1,e2,e5,e6,u,rfl⟩;rw[qyN (by omega)]at e5;simp[-fin,-kZ,-Zs,e2,e5,e6]
def qnp{k a b}:qu .geq k a b=some (.bool (decide (a≥b))):=rfl
def qnr{k a b}:qu .add k a b=some (.int k (k.wrap (a+b))):=rfl
def qnn{k a b}:qu .sub k a b=some (.int k (k.wrap (a-b))):=rfl
def qno{k a b}:qu .lss k a b=some (.bool (decide (a<b))):=rfl
def qnq{k a b}:qu .eql k a b=some (.bool (a==b)):=rfl
def qqN{n:Int}(h0:0<=n)(h1:n<=15):qkj n 15=n:=by
 have e:((BitVec.ofInt 64 n &&& 15#64).toNat:Int)=n%16:=by
  rw[BitVec.toNat_and,BitVec.toNat_ofInt];have e:(15#64).toNat=2^4-1:=by decide
  rw[e,qAp];omega
 have h:qkj n 15=IntKind.i64.wrap ((BitVec.ofInt 64 n &&& 15#64).toNat:Int):=rfl;rw[h,e,wr (by omega) (by omega)];omega
def qsw(p a)(hl:a.length=p.vars.length)(hl2:a.length<=1000)(hok:okA p.vars a)(hw:∀v∈p.vars,0<=v.width/\v.width<=15):
 Pure prog GG 11 [.agg (qA p),.sl 1 (a.map qq) .none] (.tup [.sl 1 ((qcP p.vars a).1.map qq) .none,.bool (qcP p.vars a).2]):=by
 refine qCK oM true qe func11 rfl (by kernel_rfl) ?_;by_cases ha:a=[]
 . subst ha;have hv:=qyX hl.symm;rw[show qcP p.vars []=([],false) by rw[hv];rfl];simp[oM,zn,zZ,qP,KA,qL,zK];refine qCR (fun m ev U=>ev 7=.int .i64 (-1)) 0 (by simp;decide) ?_;rintro m ev U R hR e7;simp[e7];rw[qS (by simp)];exact⟨by simp,by simp[Leq,zq]⟩
 have hl0:=qyZ.2 ha;simp[oM,zn,zZ,qP,KA,show ¬(a.length=0) by omega,show a.length<=549755813888 by omega,ha];refine qCR (fun m ev U=>qxU p a m ev U) a.length ?_ ?_
 . refine⟨by simp,by simp,by simp;rw[wr (by omega) (by omega)],qyQ _,?_,[],?_⟩
   . rw[hl,qz2,<- hl,qz2];rfl
   . rw[qz2,hl,qz2,<- hl,qAJ];have e0:a++(qH [] []).1=a:=(by show a++[]=a;rw[qzp]);rw[e0,yE,qAv];simp
 rintro m ev U R hR ⟨e2,e6,e7,hm,ho,T,rfl⟩
 cases m with
 | zero=>
  simp only[qzX,qy2]at ho;have hn:qcP p.vars a=([],false):=if_pos ho;simp[e7,hn];rw[qS (by simp)];exact⟨by simp,by simp[Leq,zq]⟩
 | succ m=>
  have hma:m<a.length:=by omega
  obtain⟨x,hx⟩:∃x,a[m]?=some x:=⟨_,qyH hma⟩;obtain⟨v,hv⟩:∃v,p.vars[m]?=some v:=⟨_,qyH (by omega)⟩;have hst:=qhl hl hv hx ho;have hpre:=WX hl m;have hwv:=hw v (qyG hv);have hs1:=vy hwv.1 (by omega);have hand:=qqN hwv.1 hwv.2;have e7':ev 7=.int .i64 (m:Int):=by rw[e7];congr 1;omega
  have hw1:=wr (n:=(m:Int)-1) (by omega) (by omega);have hokx:v.mode≠0->0<=x/\x<(z7 v:Nat):=fun hm0=>by
   have:=qhV hok hv hx
   rwa[if_neg hm0]at this
  have hsz:z7 v<=2^28:=qzc (by omega) (by omega);have hdl:(a.drop (m+1)).length=(p.vars.drop (m+1)).length:=by simp[hl]
  have hS:(a.take m).length+((qH (p.vars.drop (m+1)) (a.drop (m+1))).1.length+1)=a.length:=by
   rw[WY hdl];simp;omega
  rw[show a.take (m+1)=a.take m++[x] by rw[qzb,hx];rfl];have hpl:(a.take m).length=m:=by simp;omega
  generalize hSS:(qH (p.vars.drop (m+1)) (a.drop (m+1))).1=S at *;generalize hPP:a.take m=P at *;simp only[qze,qAq];have hen:∀y,zw (P++y::S)=zw P++.int .i64 y::zw S:=fun y=>by simp[zw]
  have hepl:(zw P).length=m:=by rw[qY,hpl]
  have hg:∀y,(zw P++AV.int .i64 y::zw S)[m]?=some (.int .i64 y):=fun y=>by
   rw[qyO (by omega),hepl,qzU];rfl
  have hd:∀y,(zw P++AV.int .i64 y::zw S).drop m=.int .i64 y::zw S:=fun y=>by
   rw[qAT (by omega),qzf (by omega)];rfl
  have hst2:∀y z,(zw P++AV.int .i64 y::zw S).set m (.int .i64 z)=zw P++.int .i64 z::zw S:=fun y z=>by
   rw[qzO _ _ (by omega),hepl,qzU];rfl
  have hlen2:∀y,(zw P++AV.int .i64 y::zw S).length=a.length:=fun y=>by
   rwa[qyK,qyY,qY,qY]
  rw[hen];have hml:m<p.vars.length:=by omega
  have hma1:m+1<=a.length:=hma;by_cases hm0:v.mode=0
  . rw[if_pos hm0]at hst;simp[e2,e7',hv,hm0,hw1];refine hR m _ _ (by omega) ⟨by simp[e2],by simp[e6],by simp,by omega,by rw[hst],T,?_⟩;rw[hst];simp only[hPP];rw[hen];simp
  have hx0:=hokx hm0;have hwx:=wr (n:=x+1) (by omega) (by omega);rw[if_neg hm0]at hst;have hwn:¬v.width<0:=by omega
  have hszv:z7 v=2^v.width.toNat:=rfl;rw[<- hszv]at hs1;by_cases hx1:x+1<(z7 v:Nat)
  . rw[if_pos hx1]at hst;have hpr:=hpre (by rw[hst]);rw[hst]at hpr;simp only at hpr;rw[show qcP p.vars a=(P++(x+1)::S,true) by unfold qcP;rw[hpr];rfl];simp[e2,e6,e7',hv,hm0,hw1,hd,hst2,hlen2,hwx,hs1,hma,hma1,hwn,IntKind.bits,hx1,-qu,Va,qnr,qnn,qno,qnq,qnp,hand];rw[show zw P++AV.int .i64 (x+1)::zw S=(P++(x+1)::S).flatMap qq by rw[<- yE,hen],show a.length=(P++(x+1)::S).length by simp;omega];obtain⟨H,hH⟩:∃H:List Blk,H=[.cells (qA p),.cells ((P++(x+1)::S).flatMap qq)]:=⟨_,rfl⟩;simp only[qA]at hH;rw[<- hH];have ho:jr 1 1 qq H (.ms 1 0 (P++(x+1)::S).length 1) (P++(x+1)::S):=.inr ⟨by simp,rfl,by rw[hH];rfl⟩;have f1:=ho.frz (fun x=>by simp) (fun x=>by simp) (fun x=>by simp) 6;have f2:=ho.frzNo (fun x=>by simp) (fun x=>by simp) (fun x=>by simp) 6;rw[frz,if_neg (by simp[zb,qx])];simp only[qyR,qzj,Vs,zb,qx,Leq,zq,qAG,and_true];refine⟨f2,?_⟩;simpa[qq] using f1
  rw[if_neg hx1]at hst;simp[e2,e6,e7',hv,hm0,hw1,hd,hst2,hlen2,hwx,hs1,hma,hma1,hwn,IntKind.bits,hx1,-qu,Va,qnr,qnn,qno,qnq,qnp,hand];refine hR m _ _ (by omega) ⟨by simp[e2],by simp[e6],by simp,by omega,by rw[hst],T,?_⟩;rw[hst];simp only[hPP];rw[hen];simp
noncomputable def qit(p:Problem)(a:List Int):Bool:=decide ((ql p).2=0)&&(ql p).1.all (jw p a)
def qaR{p}(h:(ql p).2≠0):(ql p).1=[]:=by
 unfold ql at h⊢;split
 . rename_i hv;rw[if_pos hv]at h;split
   . rename_i hs;rw[if_pos hs]at h;exact absurd rfl h
   rfl
 rfl
def qfE{p}(h:RnH p):∀e∈(ql p).1,Wen e/\hgt e<=1000/\(pre e).length<=100000:=by
 intro e he;by_cases h0:(ql p).2=0
 . exact((Qy h.q h.dl h.sl h0).2.1 e he).2
 rw[qaR h0]at he;cases he
def qhB{p}(h:RnH p):(ql p).1.length<=50000:=by
 by_cases h0:(ql p).2=0
 . exact(Qy h.q h.dl h.sl h0).2.2.1
 rw[qaR h0];simp
def qfz(p)(h:RnH p)(a)(ha:Fits a):Pure prog GG 9 [.agg (qA p),.sl 1 (a.map qq) .none] (.bool (qit p a)):=by
 refine qCL qe func9 rfl (by kernel_rfl) ?_;have hr:=qdr p h.q h.v20 h.bits h.dl h.sl;have hx:=qfE h;obtain⟨res,hres⟩:∃res,res=qit p a:=⟨_,rfl⟩;rw[<- hres];unfold qit at hres;have hho:=fun e (he:e∈(ql p).1)=>qex p a e h.q ha (hx e he).1 (hx e he).2.1 (hx e he).2.2
 have hRl:=qhB h;generalize ql p=RR at *;obtain⟨R,e⟩:=RR;dsimp only at hr hres hho hRl;simp only[qA]at hr hho;simp;refine qCO hr (by simp) ?_;by_cases he:e=0
 case neg=>
  rw[decide_eq_false he,qAD]at hres;subst hres;simp[he]
 subst he;rw[decide_eq_true rfl,qzN]at hres;simp;refine qC2 R (fun d ev U=>ev 1=.sl 1 (a.map qq) .none/\ev 2=.ptr 0 0/\ev 5=.sl 4 (R.map qt) .none/\ev 7=.int .i64 d.length/\U=⟨[.cells (qA p)],[]⟩/\res=(R.drop d.length).all (jw p a)) ?_ ?_ ?_
 . exact⟨by simp,by simp,by simp,by simp,by simp[qA],by simpa using hres⟩
 . rintro d x rest ev U Rr hR hd hxx hlt ⟨e1,e2,e5,e7,rfl,hr2⟩;have hdw:=wr (n:=(d.length:Int)+1) (by omega) (by omega);have hh:=hho x (qyG hxx);have hdr:R.drop d.length=x::R.drop (d.length+1):=by
    obtain⟨h1,h2⟩:=qyF.1 hxx;rw[qy1 h1,h2]
   rw[hdr,qAh]at hr2;simp[-qW,e1,e2,e5,e7,show(d.length:Int)<R.length by omega,hxx,KV,qA];refine qCO hh (by simp) ?_
   cases hq:jw p a x with
   | false=>
    rw[hq,qAD]at hr2;subst hr2;simp[unA]
   | true=>
    rw[hq,qzN]at hr2;simp[unA,e7,hdw];exact hR _ _ ⟨by simp[e1],by simp[e2],by simp[e5],by simp,by simp[qA],by rw[qyK];exact hr2⟩
 rintro ev U ⟨e1,e2,e5,e7,rfl,hr2⟩;have:res=true:=by rw[hr2,qz2];rfl
 subst this;simp[e5,e7]
def Zj{α:Type}{P:α->Bool}:∀{L:List α},L.Nodup->(∀a∈L,∀b∈L,P a=true->P b=true->a=b)->L.countP P=if L.any P=true then 1 else 0
 |[],_,_=>rfl
 | a::L,hn,h=>by
  have hn':=qBg.1 hn;have ih:=Zj hn'.2 fun x hx y hy=>h x (by simp[hx]) y (by simp[hy])
  rw[qCg,ih,qAS];by_cases hP:P a=true
  . have:L.any P=false:=by
     rw[qzT];intro ha;obtain⟨b,hb,hPb⟩:=qy8.1 ha;exact hn'.1 (h a (by simp) b (by simp[hb]) hP hPb▸hb)
    simp[hP,this]
  simp[hP]
def qm5{p}(hv:qk p=0){a b}(ha:a∈jF p.vars)(hb:b∈jF p.vars)(h:∀i∈(NG p).flatten,a[i]?=b[i]?):a=b:=by
 have ha':=kl.1 ha;have hb':=kl.1 hb;apply qzC;intro i;by_cases hi:i<p.vars.length
 . obtain⟨v,hvi⟩:∃v,p.vars[i]?=some v:=⟨_,qyH hi⟩;by_cases hm:v.mode=0
   . obtain⟨x,h1,h2⟩:=yy ha' hvi;obtain⟨y,h3,h4⟩:=yy hb' hvi;rw[if_pos hm]at h2 h4;rw[h1,h3,h2,h4]
   exact h i (W6 hv hvi hm)
 rw[qy6 (by rw[ha'.len];omega),qy6 (by rw[hb'.len];omega)]
def Ko{p}(hv:qk p=0){a}(ha:a∈jF p.vars){i}(hi:i∈(NG p).flatten):∃x:Nat,a[i]?=some (x:Int)/\x<2^jp p i/\aN a i=x:=by
 obtain⟨v,hvi,hm⟩:=kV hv hi;obtain⟨x,h1,h2⟩:=yy (kl.1 ha) hvi;rw[if_neg hm]at h2;obtain⟨n,rfl⟩:=qzg h2.1;refine⟨n,h1,?_,by unfold aN;rw[qyS,h1];simp⟩;rw[(qoC hv hvi).1];unfold z7 at h2;omega
def qif{n i w}:∀{l:List Dist},(jd n l)[i]?=some (some w)->∃d∈l,d.var.toNat=i/\d.weights=w:=by
 intro l
 induction hn:l.length generalizing l with
 | zero=>
  have:=qyX hn;subst this;intro h;simp[jd]at h;have:=List.eq_of_mem_replicate (qyG h);cases this
 | succ k ih=>
  obtain⟨d,x,rfl⟩:∃d x,l=d++[x]:=⟨l.dropLast,l.getLast (by rintro rfl;simp at hn),(qAX _).symm⟩;intro h;rw[YJ]at h;by_cases hi:x.var.toNat=i
  . have hl:x.var.toNat<(jd n d).length:=by
     have:=(qyF.1 h).1;rw[qzZ]at this;omega
    subst hi;rw[qyL hl]at h;simp at h;exact⟨x,by simp,rfl,h⟩
  rw[qyI hi]at h;obtain⟨y,hy,h1,h2⟩:=ih (by simpa using hn) h;exact⟨y,by simp[hy],h1,h2⟩
def Zw:∀(l) (s),(ja l s).2=0->∃m:Nat,(ja l s).1=m/\s∣m/\∀w∈l,w.each≠true->wsz w∣m
 |[],s,_=>⟨s,rfl,Nat.dvd_refl _,by simp⟩
 | w::r,s,h=>by
  unfold ja at h⊢;by_cases he:w.each=true
  . rw[if_pos he]at h⊢;obtain⟨m,h1,h2,h3⟩:=Zw r s h;refine⟨m,h1,h2,fun x hx hne=>?_⟩;rcases qy9.1 hx with rfl|hx
    . exact absurd he hne
    exact h3 x hx hne
  rw[if_neg he]at h⊢;by_cases hl:Nat.lcm s (wsz w)<9223372036854775808
  . rw[if_pos hl]at h⊢;obtain⟨m,h1,h2,h3⟩:=Zw r _ h;refine⟨m,h1,qCA (Nat.dvd_lcm_left _ _) h2,fun x hx hne=>?_⟩;rcases qy9.1 hx with rfl|hx
    . exact qCA (Nat.dvd_lcm_right _ _) h2
    exact h3 x hx hne
  rw[if_neg hl]at h;cases h
def qcf{l v}(hp:qaZ l v=true)(h:(j6 l v).2=0):1<=(j6 l v).1:=by
 unfold j6 at h⊢;split at h
 . exact absurd h (by assumption)
 rename_i h1;split at h
 . exact absurd h (by assumption)
 rename_i h2;rw[if_neg h1,if_neg h2];obtain⟨hw,_,_⟩:=J9 (qzB.1 h1);have hs:=kJ l 1 hw (by omega) (by omega);obtain⟨m,m1,_,m3⟩:=Zw l 1 (qzB.1 h2);have hm0:0<m:=by
  rcases hs with⟨_,h3,_⟩|h3
  . rw[m1]at h3;omega
  rw[h3]at h2;exact absurd (show((3:Int))≠0 by decide) h2
 rw[m1]at h⊢;rw[show((m:Int)).toNat=m by omega]at h⊢;unfold Qt at h⊢;have ho:Yy l v=l.find? (inW v):=rfl;unfold qaZ at hp;rw[<- ho]at hp
 cases hO:Yy l v with
 |none=>rw[hO]at hp;cases hp
 | some w=>
  rw[hO]at hp h;dsimp only at hp h⊢;have hwp:=of_decide_eq_true hp;have hwm:=qB9 hO;have hwl:=hw w hwm;by_cases he:w.each=true
  . rw[if_pos he]at h⊢;unfold qab at h⊢;split at h
    . rename_i hlt;rw[if_pos hlt];have:0<w.weight.toNat*m:=qAZ (by omega) hm0;dsimp only;omega
    cases h
  rw[if_neg he]at h⊢;unfold qab at h⊢;split at h
  . rename_i hlt;rw[if_pos hlt];have hd:=qAY (qA6 hm0 (m3 w hwm he)) (WK hwl.2.1);have:0<w.weight.toNat*(m/wsz w):=qAZ (by omega) hd;dsimp only;omega
  cases h
def qor{l v}(hp:qaZ l v=true):0<wtO (some l) v:=by
 unfold wtO;dsimp only;split
 . unfold lim;omega
 rename_i h;have:=qcf hp (qzB.1 h);exact qAK fun e=>by
  rw[qcB]at e;omega
def qgH{p}(hv:qk p=0){b}(hb:b∈jF p.vars)(hs:∀e∈zI p,yu (ki p.vars b) e≠0){i}(hi:i∈(NG p).flatten):0<wtP p i (aN b i)/\aN b i<2^jp p i/\b[i]?=some (aN b i:Int):=by
 obtain⟨v,hv',hm⟩:=kV hv hi;obtain⟨x,hx,hc⟩:=yy (kl.1 hb) hv';rw[if_neg hm]at hc;have hax:aN b i=x.toNat:=by unfold aN;rw[qyS,hx];rfl
 have hxx:((aN b i:Nat):Int)=x:=by rw[hax];omega
 refine⟨?_,?_,by rw[hxx];exact hx⟩
 . unfold wtP;obtain⟨o,ho⟩:∃o,(jd p.vars.length p.dists)[i]?=some o:=⟨_,qyH (by rw[yq];exact(qyF.1 hv').1)⟩;rw[qyS,ho]
   cases o with
   |none=>exact Nat.one_pos
   | some w=>
    obtain⟨d,hd,hdv,hdw⟩:=qif ho;have hsup:JH p.vars d∈zI p:=by
     unfold zI yg w9;rw[if_pos hv];exact qAs _ (qza.2 ⟨d,hd,rfl⟩)
    have hev:=(qeM (hs _ hsup)).2;have hse:JH p.vars d=kF v.name (qcD (qca v w)):=by
     unfold JH;rw[hdv,hv',hdw]
    rw[hse]at hev;have hmem:=(qfm _ _ _).1 hev;rcases qqf hv hb hv' hx with⟨hf,_⟩|h0
    . rw[hf]at hmem;have:=(qBN.1 hmem).2;rw[hxx];exact qor this
    exact absurd h0 hm
 have:=(qoC hv hv').1;rw[this,hax];unfold z7 at hc;omega
def qdD{p R val}:∀(g) (c),(∀i∈g,val i<2^jp p i)->kv p val g*(if okC p R (c++g.map fun i=>(i,val i))=true then 1 else 0)<=yC p R (fun _=>none) g c
 | [],c,_=>by
  unfold yC kv;simp
 | i::r,c,h=>by
  have ih:=qdD (p:=p) (R:=R) r (c++[(i,val i)]) fun k hk=>h k (by simp[hk])
  unfold yC kv;rw[qze]at ih;have hm:val i∈List.range (2^jp p i):=qzP.2 (h i (by simp));have:=qoV (f:=fun v=>wtP p i v*yC p R (fun _=>none) r (c++[(i,v)])) hm;refine qzs ?_ this;rw[qAH];exact Nat.mul_le_mul_left _ ih
def JL{p val}:∀{g:List Nat},(∀i∈g,0<wtP p i (val i))->0<kv p val g
 |[],_=>Nat.one_pos
 |i::r,h=>qAZ (h i (by simp)) (JL fun k hk=>h k (by simp[hk]))
noncomputable def qkc(p:Problem)(a:List Int)(g:Nat):Nat:=yC p (ql p).1 (fun _=>none) ((NG p).getD g []) (Yt p a g)
def qlz{p R a}(ha:a∈jF p.vars)(hs:j9 p.vars R a=true)(hv:qk p=0){l:List Nat}(hl:∀i∈l,i∈(NG p).flatten):okC p R (l.map fun i=>(i,aN a i))=true:=by
 unfold okC;refine qy8.2 ⟨a,ha,?_⟩;rw[qyJ];refine⟨hs,qyP.2 fun q hq=>?_⟩;obtain⟨i,hi,rfl⟩:=qza.1 hq;obtain⟨x,h1,h2,h3⟩:=Ko hv ha (hl i hi);simp[h1,h3]
def qht{p}(hv:qk p=0){a}(ha:a∈jF p.vars)(hs:j9 p.vars (ql p).1 a=true){g}(hg:g<(NG p).length):kv p (aN a) ((NG p).getD g [])<=qkc p a g:=by
 have hin:∀i∈(NG p).getD g [],i∈(NG p).flatten:=fun i hi=>by
  rw[qyS,qyH hg]at hi;exact qzl.2 ⟨_,qAV hg,hi⟩
 have h:=qdD (p:=p) (R:=(ql p).1) (val:=aN a) ((NG p).getD g []) (Yt p a g) fun i hi=>by
  obtain⟨x,h1,h2,h3⟩:=Ko hv ha (hin i hi)
  rwa[h3]
 have hok:okC p (ql p).1 (Yt p a g++((NG p).getD g []).map fun i=>(i,aN a i))=true:=by
  unfold Yt;rw[<- qzE];refine qlz ha hs hv fun i hi=>?_
  rcases qy0.1 hi with hi|hi
  . obtain⟨l,h1,h2⟩:=qzl.1 hi;exact qzl.2 ⟨l,qzy h1,h2⟩
  exact hin i hi
 rwa[hok,if_pos rfl,Nat.mul_one]at h
def qaO{p}(hv:qk p=0){a}(ha:a∈jF p.vars){R}(hs:j9 p.vars R a=true):R.all (jw p a)=true:=by
 unfold j9 at hs;rw[qyP]at hs⊢;exact fun e he=>Vz hv (by simpa using hs e he) (km hv ha)
def qq0{p}(hv:qk p=0){gi}(hgi:gi<(NG p).length):∃g,(NG p)[gi]?=some g/\(NG p).getD gi []=g/\g.Nodup/\∀i∈g,i∈(NG p).flatten:=by
 obtain⟨g,hg⟩:∃g,(NG p)[gi]?=some g:=⟨_,qyH hgi⟩;refine⟨g,hg,by rw[qyS,hg];rfl,?_,fun i hi=>qzl.2 ⟨g,qyG hg,hi⟩⟩;have hnf:=qe0 hv;obtain⟨post,hpost⟩:=qeZ hg;rw[hpost]at hnf;exact(qz3.1 (qz3.1 hnf).1).2.1
def vS(a b c d:Nat):Nat:=a*(d/Nat.gcd b d)+c*(b/Nat.gcd b d)
def kx(a b c d:Nat):Nat:=Nat.gcd (Nat.gcd b d) (vS a b c d%Nat.gcd b d)
def Ks(a b c d:Nat):Nat:=(b/Nat.gcd b d)*(d/kx a b c d)
def ko(a b c d:Nat):Nat×Nat×Nat :=
 if vS a b c d/kx a b c d<18446744073709551616/\Ks a b c d<18446744073709551616 then
  V7 (vS a b c d/kx a b c d/Nat.gcd (vS a b c d/kx a b c d) (Ks a b c d)) (Ks a b c d/Nat.gcd (vS a b c d/kx a b c d) (Ks a b c d))
 else(0,0,3)
